/- records of pairs: the priority of a visit -/
import Derived.Test.YtklconkoamoabaaB10zrd
import Derived.Test.YtklconkoamoabaaB9zrd
namespace Go.Proofs.Ytklconkoamoabaa
open Nat renaming reduceMod → zA, reduceMul → zB, reduceDiv → zC, reduceAdd → zD, reduceSub → zE, reduceEqDiff → zF, reduceBEq → zG, reduceLT → zH, reduceLeDiff → zI
open Go.RowKit
set_option linter.unusedVariables false
set_option linter.unusedSimpArgs false

def akB (ps : List Pr) (r : List Int) (v : Int) (i : Nat) : Bool := hasB (gp ps (gi r i).toNat).ask v
def akI (ps : List Pr) (r : List Int) (v : Int) : Nat → Int
  | 0 => -1
  | i + 1 => if akB ps r v i = true then (i : Int) else akI ps r v i
def gvI (ps : List Pr) (r : List Int) (v : Int) : Nat → Int
  | 0 => -1
  | i + 1 => if gvB ps r v i = true then (i : Int) else gvI ps r v i
theorem akI_yes {ps : List Pr} {r : List Int} {v : Int} {i : Nat} (h : akB ps r v i = true) : akI ps r v (i + 1) = i := if_pos h
theorem akI_no {ps : List Pr} {r : List Int} {v : Int} {i : Nat} (h : akB ps r v i = false) : akI ps r v (i + 1) = akI ps r v i := if_neg (by rw [h]; decide)
theorem gvI_yes {ps : List Pr} {r : List Int} {v : Int} {i : Nat} (h : gvB ps r v i = true) : gvI ps r v (i + 1) = i := if_pos h
theorem gvI_no {ps : List Pr} {r : List Int} {v : Int} {i : Nat} (h : gvB ps r v i = false) : gvI ps r v (i + 1) = gvI ps r v i := if_neg (by rw [h]; decide)
theorem akI_rg (ps : List Pr) (r : List Int) (v : Int) : ∀ i, -1 ≤ akI ps r v i ∧ akI ps r v i < i
  | 0 => by show (-1 : Int) ≤ -1 ∧ (-1 : Int) < 0; omega
  | i + 1 => by
    have h := akI_rg ps r v i
    cases hb : akB ps r v i with
    | true => rw [akI_yes hb]; omega
    | false => rw [akI_no hb]; omega
theorem gvI_rg (ps : List Pr) (r : List Int) (v : Int) : ∀ i, -1 ≤ gvI ps r v i ∧ gvI ps r v i < i
  | 0 => by show (-1 : Int) ≤ -1 ∧ (-1 : Int) < 0; omega
  | i + 1 => by
    have h := gvI_rg ps r v i
    cases hb : gvB ps r v i with
    | true => rw [gvI_yes hb]; omega
    | false => rw [gvI_no hb]; omega
def prV (a g : Int) : Int := if a < 0 ∧ g < 0 then 0 else if g < a then 2 * a + 1 else 2 * g + 2
set_option maxRecDepth 20000 in
set_option maxHeartbeats 4000000 in
theorem recPrioI_fn (ps : List Pr) (ha : PLn 1048576 ps) (r : List Int) (hr : r.length ≤ 1048576) (hrr : ∀ i, i < r.length → 0 ≤ gi r i ∧ gi r i < (ps.length : Int)) (v : Int) : Fn Try.prog tyT 109 [.c (.lst 99 (dII (ilv ps))), .c (DI r), .c (.int .i64 v)] [.c (.int .i64 (prV (akI ps r v r.length) (gvI ps r v r.length)))] := by
  have hl := ha.1
  have hg := fun k => gp_le ha k
  have hga : ∀ k, (gp ps k).ask.length ≤ 1048576 := fun k => (hg k).ask
  have hgg : ∀ k, (gp ps k).give.length ≤ 1048576 := fun k => (hg k).give
  have hli := len_ilv ps
  have har := akI_rg ps r v
  have hgr := gvI_rg ps r v
  refine Fn_of (fn := Try.f109) (ts := [6]) Try.func109 (by kernel_rfl) rfl rfl (by rw [Try.ntmps109]; exact Nat.le_of_ble_eq_true rfl) rfl (by simp only [szA, List.mem_cons, List.not_mem_nil, or_false, forall_eq_or_imp, forall_eq, VT.cells, szL]; try decide) ?_
  rw [Try.ntmps109]
  simp only [push_cast, ↓brB_true, ↓brB_false, ↓reduceIte, zA, zB, zC, zD, zE, zF, zG, zH, zI, reduceCtorEq]
  refine awp_seq' fun K hK => ?_
  refine awp_region tyOk tyPos [] rfl ?_
  all_goals simp only [push_cast, ↓brB_true, ↓brB_false, ↓reduceIte, zA, zB, zC, zD, zE, zF, zG, zH, zI, reduceCtorEq]
  all_goals repeat' (first | (apply brB_mk <;> (intro hg; (try simp only [push_cast] at hg))) | apply And.intro | (intro hg; (try simp only [push_cast] at hg)))
  all_goals first | exact gA | (exact getE_dII (by simp only [push_cast]; omega)) | (exact getE_dII (by omega)) | skip
  all_goals first | (refine hK _ ?_; clear hK K) | (simp only [push_cast]; done)
  refine awp_seq' fun K hK => ?_
  refine awp_region tyOk tyPos [] rfl ?_
  all_goals simp only [push_cast, ↓brB_true, ↓brB_false, ↓reduceIte, zA, zB, zC, zD, zE, zF, zG, zH, zI, reduceCtorEq]
  all_goals repeat' (first | (apply brB_mk <;> (intro hg; (try simp only [push_cast] at hg))) | apply And.intro | (intro hg; (try simp only [push_cast] at hg)))
  all_goals first | exact gA | (exact getE_dII (by simp only [push_cast]; omega)) | (exact getE_dII (by omega)) | skip
  all_goals first | (refine hK _ ?_; clear hK K) | (simp only [push_cast]; done)
  refine awp_seq' fun K1 hK1 => ?_
  refine awp_seq' fun K hK => ?_
  refine awp_region tyOk tyPos [] rfl ?_
  all_goals simp only [push_cast, ↓brB_true, ↓brB_false, ↓reduceIte, zA, zB, zC, zD, zE, zF, zG, zH, zI, reduceCtorEq]
  all_goals repeat' (first | (apply brB_mk <;> (intro hg; (try simp only [push_cast] at hg))) | apply And.intro | (intro hg; (try simp only [push_cast] at hg)))
  all_goals first | exact gA | (exact getE_dII (by simp only [push_cast]; omega)) | (exact getE_dII (by omega)) | skip
  all_goals first | (refine hK _ ?_; clear hK K) | (simp only [push_cast]; done)
  refine awp_block ?_
  refine awp_loopU [7,8,9,10,13,14,15,16,17,18,19,20,21,22,23,24,25,26,27,28,29,30,31,32,33,34] [] (fun (k : Nat) => [(13, .int .i64 k), (7, .int .i64 (akI ps r v k)), (8, .int .i64 (gvI ps r v k))]) (fun k => []) (fun k => []) (fun k => k ≤ r.length) (fun k => r.length - k) 0 ?_ (by omega) ?_
  ·
    rw [show akI ps r v 0 = -1 from rfl, show gvI ps r v 0 = -1 from rfl]
    refine cov_of rfl ?_ ?_ ?_ <;> simp only [covS, covL, push_cast, ↓brB_true, ↓brB_false, ↓reduceIte, zA, zB, zC, zD, zE, zF, zG, zH, zI, reduceCtorEq]
  · rintro k hk KL0 hL0
    simp only [push_cast, ↓brB_true, ↓brB_false, ↓reduceIte, zA, zB, zC, zD, zE, zF, zG, zH, zI, reduceCtorEq]
    refine awp_seq' fun K hK => ?_
    refine awp_region tyOk tyPos [] rfl ?_
    all_goals simp only [push_cast, ↓brB_true, ↓brB_false, ↓reduceIte, zA, zB, zC, zD, zE, zF, zG, zH, zI, reduceCtorEq]
    all_goals repeat' (first | (apply brB_mk <;> (intro hg; (try simp only [push_cast] at hg))) | apply And.intro | (intro hg; (try simp only [push_cast] at hg)))
    all_goals first | exact gA | (exact getE_dII (by simp only [push_cast]; omega)) | (exact getE_dII (by omega)) | skip
    all_goals first | (refine hK _ ?_; clear hK K) | (simp only [push_cast]; done)
    refine awp_seq' fun K2 hK2 => ?_
    refine awp_cond rfl (fun hc => ?_) (fun hc => ?_) <;> (try simp only [push_cast] at hc)
    ·
      refine awp_skip ?_
      (try simp only [AThen, ABlk, reduceIte, zF]); refine hK2 _ ?_
      refine awp_seq' fun K3 hK3 => ?_
      refine awp_block ?_
      have hrk := hrr k (by omega)
      refine awp_seq' fun K hK => ?_
      refine awp_region tyOk tyPos [] rfl ?_
      all_goals simp only [push_cast, ↓brB_true, ↓brB_false, ↓reduceIte, zA, zB, zC, zD, zE, zF, zG, zH, zI, reduceCtorEq]
      all_goals repeat' (first | (apply brB_mk <;> (intro hg; (try simp only [push_cast] at hg))) | apply And.intro | (intro hg; (try simp only [push_cast] at hg)))
      all_goals first | exact gA | (exact getE_dII (by simp only [push_cast]; omega)) | (exact getE_dII (by omega)) | skip
      all_goals first | (refine hK _ ?_; clear hK K) | (simp only [push_cast]; done)
      refine awp_seq' fun K4 hK4 => ?_
      refine awp_seq' fun K hK => ?_
      refine awp_region tyOk tyPos [] rfl ?_
      all_goals refine aops_cut 7 fun K9 hK9 => ?_
      all_goals simp only [push_cast, ↓brB_true, ↓brB_false, ↓reduceIte, zA, zB, zC, zD, zE, zF, zG, zH, zI, reduceCtorEq]
      all_goals repeat' (first | (apply brB_mk <;> (intro hg; (try simp only [push_cast] at hg))) | (refine ⟨_, Contains_fn (gp ps (gi r k).toNat).ask v (hga _), ?_⟩; simp only [push_cast, ↓brB_true, ↓brB_false, ↓reduceIte, zA, zB, zC, zD, zE, zF, zG, zH, zI, reduceCtorEq]) | apply And.intro | (intro hg; (try simp only [push_cast] at hg)))
      all_goals first | exact gA | (exact getE_dII (by simp only [push_cast]; omega)) | (exact getE_dII (by omega)) | skip
      all_goals first | (refine hK9 _ ?_; clear hK9 K9) | (simp only [push_cast]; done)
      all_goals simp only [push_cast, ↓brB_true, ↓brB_false, ↓reduceIte, zA, zB, zC, zD, zE, zF, zG, zH, zI, reduceCtorEq]
      all_goals repeat' (first | (apply brB_mk <;> (intro hg; (try simp only [push_cast] at hg))) | (refine ⟨_, Contains_fn (gp ps (gi r k).toNat).ask v (hga _), ?_⟩; simp only [push_cast, ↓brB_true, ↓brB_false, ↓reduceIte, zA, zB, zC, zD, zE, zF, zG, zH, zI, reduceCtorEq]) | apply And.intro | (intro hg; (try simp only [push_cast] at hg)))
      all_goals first | exact gA | (exact getE_dII (by simp only [push_cast]; omega)) | (exact getE_dII (by omega)) | skip
      all_goals first | (refine hK _ ?_; clear hK K) | (simp only [push_cast]; done)
      refine awp_cond rfl (fun hc => ?_) (fun hc => ?_) <;> (try simp only [push_cast] at hc)
      ·
        refine awp_region tyOk tyPos [] rfl ?_
        all_goals simp only [push_cast, ↓brB_true, ↓brB_false, ↓reduceIte, zA, zB, zC, zD, zE, zF, zG, zH, zI, reduceCtorEq]
        all_goals repeat' (first | (apply brB_mk <;> (intro hg; (try simp only [push_cast] at hg))) | apply And.intro | (intro hg; (try simp only [push_cast] at hg)))
        all_goals first | exact gA | (exact getE_dII (by simp only [push_cast]; omega)) | (exact getE_dII (by omega)) | skip
        (try simp only [AThen, ABlk, reduceIte, zF]); refine hK4 _ ?_
        refine awp_seq' fun K hK => ?_
        refine awp_region tyOk tyPos [] rfl ?_
        all_goals refine aops_cut 7 fun K9 hK9 => ?_
        all_goals simp only [push_cast, ↓brB_true, ↓brB_false, ↓reduceIte, zA, zB, zC, zD, zE, zF, zG, zH, zI, reduceCtorEq]
        all_goals repeat' (first | (apply brB_mk <;> (intro hg; (try simp only [push_cast] at hg))) | (refine ⟨_, Contains_fn (gp ps (gi r k).toNat).give v (hgg _), ?_⟩; simp only [push_cast, ↓brB_true, ↓brB_false, ↓reduceIte, zA, zB, zC, zD, zE, zF, zG, zH, zI, reduceCtorEq]) | apply And.intro | (intro hg; (try simp only [push_cast] at hg)))
        all_goals first | exact gA | (exact getE_dII (by simp only [push_cast]; omega)) | (exact getE_dII (by omega)) | skip
        all_goals first | (refine hK9 _ ?_; clear hK9 K9) | (simp only [push_cast]; done)
        all_goals simp only [push_cast, ↓brB_true, ↓brB_false, ↓reduceIte, zA, zB, zC, zD, zE, zF, zG, zH, zI, reduceCtorEq]
        all_goals repeat' (first | (apply brB_mk <;> (intro hg; (try simp only [push_cast] at hg))) | (refine ⟨_, Contains_fn (gp ps (gi r k).toNat).give v (hgg _), ?_⟩; simp only [push_cast, ↓brB_true, ↓brB_false, ↓reduceIte, zA, zB, zC, zD, zE, zF, zG, zH, zI, reduceCtorEq]) | apply And.intro | (intro hg; (try simp only [push_cast] at hg)))
        all_goals first | exact gA | (exact getE_dII (by simp only [push_cast]; omega)) | (exact getE_dII (by omega)) | skip
        all_goals first | (refine hK _ ?_; clear hK K) | (simp only [push_cast]; done)
        refine awp_cond rfl (fun hc => ?_) (fun hc => ?_) <;> (try simp only [push_cast] at hc)
        ·
          refine awp_region tyOk tyPos [] rfl ?_
          all_goals simp only [push_cast, ↓brB_true, ↓brB_false, ↓reduceIte, zA, zB, zC, zD, zE, zF, zG, zH, zI, reduceCtorEq]
          all_goals repeat' (first | (apply brB_mk <;> (intro hg; (try simp only [push_cast] at hg))) | apply And.intro | (intro hg; (try simp only [push_cast] at hg)))
          all_goals first | exact gA | (exact getE_dII (by simp only [push_cast]; omega)) | (exact getE_dII (by omega)) | skip
          (try simp only [AThen, ABlk, reduceIte, zF]); refine hK3 _ ?_
          refine awp_region tyOk tyPos [] rfl ?_
          all_goals simp only [push_cast, ↓brB_true, ↓brB_false, ↓reduceIte, zA, zB, zC, zD, zE, zF, zG, zH, zI, reduceCtorEq]
          all_goals repeat' (first | (apply brB_mk <;> (intro hg; (try simp only [push_cast] at hg))) | apply And.intro | (intro hg; (try simp only [push_cast] at hg)))
          all_goals first | exact gA | (exact getE_dII (by simp only [push_cast]; omega)) | (exact getE_dII (by omega)) | skip
          refine hL0 _ ⟨k + 1, by omega, by omega, ?_⟩
          rw [akI_yes (by unfold akB; with_reducible assumption), gvI_yes (by unfold gvB; with_reducible assumption)]
          refine cov_of rfl ?_ ?_ ?_ <;> simp only [covS, covL, push_cast, ↓brB_true, ↓brB_false, ↓reduceIte, zA, zB, zC, zD, zE, zF, zG, zH, zI, reduceCtorEq]
        ·
          refine awp_skip ?_
          (try simp only [AThen, ABlk, reduceIte, zF]); refine hK3 _ ?_
          refine awp_region tyOk tyPos [] rfl ?_
          all_goals simp only [push_cast, ↓brB_true, ↓brB_false, ↓reduceIte, zA, zB, zC, zD, zE, zF, zG, zH, zI, reduceCtorEq]
          all_goals repeat' (first | (apply brB_mk <;> (intro hg; (try simp only [push_cast] at hg))) | apply And.intro | (intro hg; (try simp only [push_cast] at hg)))
          all_goals first | exact gA | (exact getE_dII (by simp only [push_cast]; omega)) | (exact getE_dII (by omega)) | skip
          refine hL0 _ ⟨k + 1, by omega, by omega, ?_⟩
          rw [akI_yes (by unfold akB; with_reducible assumption), gvI_no (by unfold gvB; with_reducible assumption)]
          refine cov_of rfl ?_ ?_ ?_ <;> simp only [covS, covL, push_cast, ↓brB_true, ↓brB_false, ↓reduceIte, zA, zB, zC, zD, zE, zF, zG, zH, zI, reduceCtorEq]
      ·
        refine awp_skip ?_
        (try simp only [AThen, ABlk, reduceIte, zF]); refine hK4 _ ?_
        refine awp_seq' fun K hK => ?_
        refine awp_region tyOk tyPos [] rfl ?_
        all_goals refine aops_cut 7 fun K9 hK9 => ?_
        all_goals simp only [push_cast, ↓brB_true, ↓brB_false, ↓reduceIte, zA, zB, zC, zD, zE, zF, zG, zH, zI, reduceCtorEq]
        all_goals repeat' (first | (apply brB_mk <;> (intro hg; (try simp only [push_cast] at hg))) | (refine ⟨_, Contains_fn (gp ps (gi r k).toNat).give v (hgg _), ?_⟩; simp only [push_cast, ↓brB_true, ↓brB_false, ↓reduceIte, zA, zB, zC, zD, zE, zF, zG, zH, zI, reduceCtorEq]) | apply And.intro | (intro hg; (try simp only [push_cast] at hg)))
        all_goals first | exact gA | (exact getE_dII (by simp only [push_cast]; omega)) | (exact getE_dII (by omega)) | skip
        all_goals first | (refine hK9 _ ?_; clear hK9 K9) | (simp only [push_cast]; done)
        all_goals simp only [push_cast, ↓brB_true, ↓brB_false, ↓reduceIte, zA, zB, zC, zD, zE, zF, zG, zH, zI, reduceCtorEq]
        all_goals repeat' (first | (apply brB_mk <;> (intro hg; (try simp only [push_cast] at hg))) | (refine ⟨_, Contains_fn (gp ps (gi r k).toNat).give v (hgg _), ?_⟩; simp only [push_cast, ↓brB_true, ↓brB_false, ↓reduceIte, zA, zB, zC, zD, zE, zF, zG, zH, zI, reduceCtorEq]) | apply And.intro | (intro hg; (try simp only [push_cast] at hg)))
        all_goals first | exact gA | (exact getE_dII (by simp only [push_cast]; omega)) | (exact getE_dII (by omega)) | skip
        all_goals first | (refine hK _ ?_; clear hK K) | (simp only [push_cast]; done)
        refine awp_cond rfl (fun hc => ?_) (fun hc => ?_) <;> (try simp only [push_cast] at hc)
        ·
          refine awp_region tyOk tyPos [] rfl ?_
          all_goals simp only [push_cast, ↓brB_true, ↓brB_false, ↓reduceIte, zA, zB, zC, zD, zE, zF, zG, zH, zI, reduceCtorEq]
          all_goals repeat' (first | (apply brB_mk <;> (intro hg; (try simp only [push_cast] at hg))) | apply And.intro | (intro hg; (try simp only [push_cast] at hg)))
          all_goals first | exact gA | (exact getE_dII (by simp only [push_cast]; omega)) | (exact getE_dII (by omega)) | skip
          (try simp only [AThen, ABlk, reduceIte, zF]); refine hK3 _ ?_
          refine awp_region tyOk tyPos [] rfl ?_
          all_goals simp only [push_cast, ↓brB_true, ↓brB_false, ↓reduceIte, zA, zB, zC, zD, zE, zF, zG, zH, zI, reduceCtorEq]
          all_goals repeat' (first | (apply brB_mk <;> (intro hg; (try simp only [push_cast] at hg))) | apply And.intro | (intro hg; (try simp only [push_cast] at hg)))
          all_goals first | exact gA | (exact getE_dII (by simp only [push_cast]; omega)) | (exact getE_dII (by omega)) | skip
          refine hL0 _ ⟨k + 1, by omega, by omega, ?_⟩
          rw [akI_no (by unfold akB; with_reducible assumption), gvI_yes (by unfold gvB; with_reducible assumption)]
          refine cov_of rfl ?_ ?_ ?_ <;> simp only [covS, covL, push_cast, ↓brB_true, ↓brB_false, ↓reduceIte, zA, zB, zC, zD, zE, zF, zG, zH, zI, reduceCtorEq]
        ·
          refine awp_skip ?_
          (try simp only [AThen, ABlk, reduceIte, zF]); refine hK3 _ ?_
          refine awp_region tyOk tyPos [] rfl ?_
          all_goals simp only [push_cast, ↓brB_true, ↓brB_false, ↓reduceIte, zA, zB, zC, zD, zE, zF, zG, zH, zI, reduceCtorEq]
          all_goals repeat' (first | (apply brB_mk <;> (intro hg; (try simp only [push_cast] at hg))) | apply And.intro | (intro hg; (try simp only [push_cast] at hg)))
          all_goals first | exact gA | (exact getE_dII (by simp only [push_cast]; omega)) | (exact getE_dII (by omega)) | skip
          refine hL0 _ ⟨k + 1, by omega, by omega, ?_⟩
          rw [akI_no (by unfold akB; with_reducible assumption), gvI_no (by unfold gvB; with_reducible assumption)]
          refine cov_of rfl ?_ ?_ ?_ <;> simp only [covS, covL, push_cast, ↓brB_true, ↓brB_false, ↓reduceIte, zA, zB, zC, zD, zE, zF, zG, zH, zI, reduceCtorEq]
    ·
      refine awp_exit ?_
      have hkk : k = r.length := by omega
      subst hkk
      have har9 := har r.length
      have hgr9 := hgr r.length
      (try simp only [AThen, ABlk, reduceIte, zF]); refine hK1 _ ?_
      refine awp_seq' fun K5 hK5 => ?_
      refine awp_block ?_
      refine awp_seq' fun K hK => ?_
      refine awp_regionN false tyOk tyPos ?_ rfl ?_
      · kernel_rfl
      all_goals simp only [push_cast, ↓brB_true, ↓brB_false, ↓reduceIte, zA, zB, zC, zD, zE, zF, zG, zH, zI, reduceCtorEq]
      all_goals repeat' (first | (apply brB_mk <;> (intro hg; (try simp only [push_cast] at hg))) | apply And.intro | (intro hg; (try simp only [push_cast] at hg)))
      all_goals first | exact gA | (exact getE_dII (by simp only [push_cast]; omega)) | (exact getE_dII (by omega)) | skip
      all_goals first | (refine hK _ ?_; clear hK K) | (simp only [push_cast]; done)
      all_goals refine awp_cond rfl (fun hc => ?_) (fun hc => ?_)
      all_goals (first | (cases hc; done) | skip)
      all_goals (try simp only [push_cast] at hc)
      all_goals first
        | (
            refine awp_seq' fun K hK => ?_
            refine awp_region tyOk tyPos [] rfl ?_
            all_goals simp only [push_cast, ↓brB_true, ↓brB_false, ↓reduceIte, zA, zB, zC, zD, zE, zF, zG, zH, zI, reduceCtorEq]
            all_goals repeat' (first | (apply brB_mk <;> (intro hg; (try simp only [push_cast] at hg))) | apply And.intro | (intro hg; (try simp only [push_cast] at hg)))
            all_goals first | exact gA | (exact getE_dII (by simp only [push_cast]; omega)) | (exact getE_dII (by omega)) | skip
            all_goals first | (refine hK _ ?_; clear hK K) | (simp only [push_cast]; done)
            all_goals refine awp_cond rfl (fun hc => ?_) (fun hc => ?_)
            all_goals (first | (cases hc; done) | skip)
            all_goals (try simp only [push_cast] at hc)
            all_goals (first | (exfalso; omega) | skip)
            all_goals first
              | (
                  refine awp_skip ?_
                  (try simp only [AThen, ABlk, reduceIte, zF]); refine hK5 _ ?_
                  refine awp_seq' fun K hK => ?_
                  refine awp_region tyOk tyPos [] rfl ?_
                  all_goals simp only [push_cast, ↓brB_true, ↓brB_false, ↓reduceIte, zA, zB, zC, zD, zE, zF, zG, zH, zI, reduceCtorEq]
                  all_goals repeat' (first | (apply brB_mk <;> (intro hg; (try simp only [push_cast] at hg))) | apply And.intro | (intro hg; (try simp only [push_cast] at hg)))
                  all_goals first | exact gA | (exact getE_dII (by simp only [push_cast]; omega)) | (exact getE_dII (by omega)) | skip
                  all_goals first | (refine hK _ ?_; clear hK K) | (simp only [push_cast]; done)
                  refine awp_ret ?_
                  (try simp only [AThen, ABlk])
                  refine ⟨Or.inl rfl, ?_⟩
                  simp only [RetOk, push_cast, ↓brB_true, ↓brB_false, ↓reduceIte, zA, zB, zC, zD, zE, zF, zG, zH, zI, reduceCtorEq]
                  all_goals (unfold prV; split <;> (try split) <;> omega)
                  done)
              | (
                  refine awp_seq' fun K hK => ?_
                  refine awp_region tyOk tyPos [] rfl ?_
                  all_goals simp only [push_cast, ↓brB_true, ↓brB_false, ↓reduceIte, zA, zB, zC, zD, zE, zF, zG, zH, zI, reduceCtorEq]
                  all_goals repeat' (first | (apply brB_mk <;> (intro hg; (try simp only [push_cast] at hg))) | apply And.intro | (intro hg; (try simp only [push_cast] at hg)))
                  all_goals first | exact gA | (exact getE_dII (by simp only [push_cast]; omega)) | (exact getE_dII (by omega)) | skip
                  all_goals first | (refine hK _ ?_; clear hK K) | (simp only [push_cast]; done)
                  refine awp_ret ?_
                  (try simp only [AThen, ABlk])
                  refine ⟨Or.inl rfl, ?_⟩
                  simp only [RetOk, push_cast, ↓brB_true, ↓brB_false, ↓reduceIte, zA, zB, zC, zD, zE, zF, zG, zH, zI, reduceCtorEq]
                  all_goals (unfold prV; split <;> (try split) <;> omega)
                  done)
            done)
        | (
            refine awp_seq' fun K hK => ?_
            refine awp_region tyOk tyPos [] rfl ?_
            all_goals simp only [push_cast, ↓brB_true, ↓brB_false, ↓reduceIte, zA, zB, zC, zD, zE, zF, zG, zH, zI, reduceCtorEq]
            all_goals repeat' (first | (apply brB_mk <;> (intro hg; (try simp only [push_cast] at hg))) | apply And.intro | (intro hg; (try simp only [push_cast] at hg)))
            all_goals first | exact gA | (exact getE_dII (by simp only [push_cast]; omega)) | (exact getE_dII (by omega)) | skip
            all_goals first | (refine hK _ ?_; clear hK K) | (simp only [push_cast]; done)
            refine awp_ret ?_
            (try simp only [AThen, ABlk])
            refine ⟨Or.inl rfl, ?_⟩
            simp only [RetOk, push_cast, ↓brB_true, ↓brB_false, ↓reduceIte, zA, zB, zC, zD, zE, zF, zG, zH, zI, reduceCtorEq]
            all_goals (unfold prV; split <;> (try split) <;> omega)
            done)
set_option maxRecDepth 20000 in
set_option maxHeartbeats 4000000 in
theorem l17Prio_fn (ps : List Pr) (ha : PLn 1048576 ps) (r : List Int) (hr : r.length ≤ 1048576) (hrr : ∀ i, i < r.length → 0 ≤ gi r i ∧ gi r i < (ps.length : Int)) (v : Int) : Fn Try.prog tyT 80 [.c (.lst 99 (dII (ilv ps))), .c (DI r), .c (.int .i64 v)] [.c (.int .i64 (prV (akI ps r v r.length) (gvI ps r v r.length)))] := by
  have hl := ha.1
  have hg := fun k => gp_le ha k
  have hga : ∀ k, (gp ps k).ask.length ≤ 1048576 := fun k => (hg k).ask
  have hgg : ∀ k, (gp ps k).give.length ≤ 1048576 := fun k => (hg k).give
  have hli := len_ilv ps
  have har := akI_rg ps r v
  have hgr := gvI_rg ps r v
  refine Fn_of (fn := Try.f80) (ts := [6]) Try.func80 (by kernel_rfl) rfl rfl (by rw [Try.ntmps80]; exact Nat.le_of_ble_eq_true rfl) rfl (by simp only [szA, List.mem_cons, List.not_mem_nil, or_false, forall_eq_or_imp, forall_eq, VT.cells, szL]; try decide) ?_
  rw [Try.ntmps80]
  simp only [push_cast, ↓brB_true, ↓brB_false, ↓reduceIte, zA, zB, zC, zD, zE, zF, zG, zH, zI, reduceCtorEq]
  refine awp_seq' fun K hK => ?_
  refine awp_region tyOk tyPos [] rfl ?_
  all_goals simp only [push_cast, ↓brB_true, ↓brB_false, ↓reduceIte, zA, zB, zC, zD, zE, zF, zG, zH, zI, reduceCtorEq]
  all_goals repeat' (first | (apply brB_mk <;> (intro hg; (try simp only [push_cast] at hg))) | apply And.intro | (intro hg; (try simp only [push_cast] at hg)))
  all_goals first | exact gA | (exact getE_dII (by simp only [push_cast]; omega)) | (exact getE_dII (by omega)) | skip
  all_goals first | (refine hK _ ?_; clear hK K) | (simp only [push_cast]; done)
  refine awp_seq' fun K hK => ?_
  refine awp_region tyOk tyPos [] rfl ?_
  all_goals simp only [push_cast, ↓brB_true, ↓brB_false, ↓reduceIte, zA, zB, zC, zD, zE, zF, zG, zH, zI, reduceCtorEq]
  all_goals repeat' (first | (apply brB_mk <;> (intro hg; (try simp only [push_cast] at hg))) | apply And.intro | (intro hg; (try simp only [push_cast] at hg)))
  all_goals first | exact gA | (exact getE_dII (by simp only [push_cast]; omega)) | (exact getE_dII (by omega)) | skip
  all_goals first | (refine hK _ ?_; clear hK K) | (simp only [push_cast]; done)
  refine awp_seq' fun K hK => ?_
  refine awp_region tyOk tyPos [] rfl ?_
  all_goals simp only [push_cast, ↓brB_true, ↓brB_false, ↓reduceIte, zA, zB, zC, zD, zE, zF, zG, zH, zI, reduceCtorEq]
  all_goals repeat' (first | (apply brB_mk <;> (intro hg; (try simp only [push_cast] at hg))) | apply And.intro | (intro hg; (try simp only [push_cast] at hg)))
  all_goals first | exact gA | (exact getE_dII (by simp only [push_cast]; omega)) | (exact getE_dII (by omega)) | skip
  all_goals first | (refine hK _ ?_; clear hK K) | (simp only [push_cast]; done)
  refine awp_seq' fun K1 hK1 => ?_
  refine awp_seq' fun K hK => ?_
  refine awp_region tyOk tyPos [] rfl ?_
  all_goals simp only [push_cast, ↓brB_true, ↓brB_false, ↓reduceIte, zA, zB, zC, zD, zE, zF, zG, zH, zI, reduceCtorEq]
  all_goals repeat' (first | (apply brB_mk <;> (intro hg; (try simp only [push_cast] at hg))) | apply And.intro | (intro hg; (try simp only [push_cast] at hg)))
  all_goals first | exact gA | (exact getE_dII (by simp only [push_cast]; omega)) | (exact getE_dII (by omega)) | skip
  all_goals first | (refine hK _ ?_; clear hK K) | (simp only [push_cast]; done)
  refine awp_block ?_
  refine awp_loopU [7,8,9,10,11,12,13,14,15,16,17,18,19,20,21,22,23,24,25,26,27,28,29,30,31,32,33,34,35,36,37] [] (fun (k : Nat) => [(9, .int .i64 k), (7, .int .i64 (akI ps r v k)), (8, .int .i64 (gvI ps r v k))]) (fun k => []) (fun k => []) (fun k => k ≤ r.length) (fun k => r.length - k) 0 ?_ (by omega) ?_
  ·
    rw [show akI ps r v 0 = -1 from rfl, show gvI ps r v 0 = -1 from rfl]
    refine cov_of rfl ?_ ?_ ?_ <;> simp only [covS, covL, push_cast, ↓brB_true, ↓brB_false, ↓reduceIte, zA, zB, zC, zD, zE, zF, zG, zH, zI, reduceCtorEq]
  · rintro k hk KL0 hL0
    simp only [push_cast, ↓brB_true, ↓brB_false, ↓reduceIte, zA, zB, zC, zD, zE, zF, zG, zH, zI, reduceCtorEq]
    refine awp_seq' fun K2 hK2 => ?_
    refine awp_seq' fun K hK => ?_
    refine awp_region tyOk tyPos [] rfl ?_
    all_goals simp only [push_cast, ↓brB_true, ↓brB_false, ↓reduceIte, zA, zB, zC, zD, zE, zF, zG, zH, zI, reduceCtorEq]
    all_goals repeat' (first | (apply brB_mk <;> (intro hg; (try simp only [push_cast] at hg))) | apply And.intro | (intro hg; (try simp only [push_cast] at hg)))
    all_goals first | exact gA | (exact getE_dII (by simp only [push_cast]; omega)) | (exact getE_dII (by omega)) | skip
    all_goals first | (refine hK _ ?_; clear hK K) | (simp only [push_cast]; done)
    refine awp_cond rfl (fun hc => ?_) (fun hc => ?_) <;> (try simp only [push_cast] at hc)
    ·
      refine awp_skip ?_
      (try simp only [AThen, ABlk, reduceIte, zF]); refine hK2 _ ?_
      refine awp_seq' fun K3 hK3 => ?_
      refine awp_block ?_
      refine awp_seq' fun K4 hK4 => ?_
      have hrk := hrr k (by omega)
      refine awp_seq' fun K hK => ?_
      refine awp_region tyOk tyPos [] rfl ?_
      all_goals refine aops_cut 10 fun K9 hK9 => ?_
      all_goals simp only [push_cast, ↓brB_true, ↓brB_false, ↓reduceIte, zA, zB, zC, zD, zE, zF, zG, zH, zI, reduceCtorEq]
      all_goals repeat' (first | (apply brB_mk <;> (intro hg; (try simp only [push_cast] at hg))) | (refine ⟨_, l16Has_fn (gp ps (gi r k).toNat).ask v (hga _), ?_⟩; simp only [push_cast, ↓brB_true, ↓brB_false, ↓reduceIte, zA, zB, zC, zD, zE, zF, zG, zH, zI, reduceCtorEq]) | apply And.intro | (intro hg; (try simp only [push_cast] at hg)))
      all_goals first | exact gA | (exact getE_dII (by simp only [push_cast]; omega)) | (exact getE_dII (by omega)) | skip
      all_goals first | (refine hK9 _ ?_; clear hK9 K9) | (simp only [push_cast]; done)
      all_goals simp only [push_cast, ↓brB_true, ↓brB_false, ↓reduceIte, zA, zB, zC, zD, zE, zF, zG, zH, zI, reduceCtorEq]
      all_goals repeat' (first | (apply brB_mk <;> (intro hg; (try simp only [push_cast] at hg))) | (refine ⟨_, l16Has_fn (gp ps (gi r k).toNat).ask v (hga _), ?_⟩; simp only [push_cast, ↓brB_true, ↓brB_false, ↓reduceIte, zA, zB, zC, zD, zE, zF, zG, zH, zI, reduceCtorEq]) | apply And.intro | (intro hg; (try simp only [push_cast] at hg)))
      all_goals first | exact gA | (exact getE_dII (by simp only [push_cast]; omega)) | (exact getE_dII (by omega)) | skip
      all_goals first | (refine hK _ ?_; clear hK K) | (simp only [push_cast]; done)
      refine awp_cond rfl (fun hc => ?_) (fun hc => ?_) <;> (try simp only [push_cast] at hc)
      ·
        refine awp_region tyOk tyPos [] rfl ?_
        all_goals simp only [push_cast, ↓brB_true, ↓brB_false, ↓reduceIte, zA, zB, zC, zD, zE, zF, zG, zH, zI, reduceCtorEq]
        all_goals repeat' (first | (apply brB_mk <;> (intro hg; (try simp only [push_cast] at hg))) | apply And.intro | (intro hg; (try simp only [push_cast] at hg)))
        all_goals first | exact gA | (exact getE_dII (by simp only [push_cast]; omega)) | (exact getE_dII (by omega)) | skip
        (try simp only [AThen, ABlk, reduceIte, zF]); refine hK4 _ ?_
        refine awp_seq' fun K hK => ?_
        refine awp_region tyOk tyPos [] rfl ?_
        all_goals refine aops_cut 10 fun K9 hK9 => ?_
        all_goals simp only [push_cast, ↓brB_true, ↓brB_false, ↓reduceIte, zA, zB, zC, zD, zE, zF, zG, zH, zI, reduceCtorEq]
        all_goals repeat' (first | (apply brB_mk <;> (intro hg; (try simp only [push_cast] at hg))) | (refine ⟨_, l16Has_fn (gp ps (gi r k).toNat).give v (hgg _), ?_⟩; simp only [push_cast, ↓brB_true, ↓brB_false, ↓reduceIte, zA, zB, zC, zD, zE, zF, zG, zH, zI, reduceCtorEq]) | apply And.intro | (intro hg; (try simp only [push_cast] at hg)))
        all_goals first | exact gA | (exact getE_dII (by simp only [push_cast]; omega)) | (exact getE_dII (by omega)) | skip
        all_goals first | (refine hK9 _ ?_; clear hK9 K9) | (simp only [push_cast]; done)
        all_goals simp only [push_cast, ↓brB_true, ↓brB_false, ↓reduceIte, zA, zB, zC, zD, zE, zF, zG, zH, zI, reduceCtorEq]
        all_goals repeat' (first | (apply brB_mk <;> (intro hg; (try simp only [push_cast] at hg))) | (refine ⟨_, l16Has_fn (gp ps (gi r k).toNat).give v (hgg _), ?_⟩; simp only [push_cast, ↓brB_true, ↓brB_false, ↓reduceIte, zA, zB, zC, zD, zE, zF, zG, zH, zI, reduceCtorEq]) | apply And.intro | (intro hg; (try simp only [push_cast] at hg)))
        all_goals first | exact gA | (exact getE_dII (by simp only [push_cast]; omega)) | (exact getE_dII (by omega)) | skip
        all_goals first | (refine hK _ ?_; clear hK K) | (simp only [push_cast]; done)
        refine awp_cond rfl (fun hc => ?_) (fun hc => ?_) <;> (try simp only [push_cast] at hc)
        ·
          refine awp_region tyOk tyPos [] rfl ?_
          all_goals simp only [push_cast, ↓brB_true, ↓brB_false, ↓reduceIte, zA, zB, zC, zD, zE, zF, zG, zH, zI, reduceCtorEq]
          all_goals repeat' (first | (apply brB_mk <;> (intro hg; (try simp only [push_cast] at hg))) | apply And.intro | (intro hg; (try simp only [push_cast] at hg)))
          all_goals first | exact gA | (exact getE_dII (by simp only [push_cast]; omega)) | (exact getE_dII (by omega)) | skip
          (try simp only [AThen, ABlk, reduceIte, zF]); refine hK3 _ ?_
          refine awp_region tyOk tyPos [] rfl ?_
          all_goals simp only [push_cast, ↓brB_true, ↓brB_false, ↓reduceIte, zA, zB, zC, zD, zE, zF, zG, zH, zI, reduceCtorEq]
          all_goals repeat' (first | (apply brB_mk <;> (intro hg; (try simp only [push_cast] at hg))) | apply And.intro | (intro hg; (try simp only [push_cast] at hg)))
          all_goals first | exact gA | (exact getE_dII (by simp only [push_cast]; omega)) | (exact getE_dII (by omega)) | skip
          refine hL0 _ ⟨k + 1, by omega, by omega, ?_⟩
          rw [akI_yes (by unfold akB; with_reducible assumption), gvI_yes (by unfold gvB; with_reducible assumption)]
          refine cov_of rfl ?_ ?_ ?_ <;> simp only [covS, covL, push_cast, ↓brB_true, ↓brB_false, ↓reduceIte, zA, zB, zC, zD, zE, zF, zG, zH, zI, reduceCtorEq]
        ·
          refine awp_skip ?_
          (try simp only [AThen, ABlk, reduceIte, zF]); refine hK3 _ ?_
          refine awp_region tyOk tyPos [] rfl ?_
          all_goals simp only [push_cast, ↓brB_true, ↓brB_false, ↓reduceIte, zA, zB, zC, zD, zE, zF, zG, zH, zI, reduceCtorEq]
          all_goals repeat' (first | (apply brB_mk <;> (intro hg; (try simp only [push_cast] at hg))) | apply And.intro | (intro hg; (try simp only [push_cast] at hg)))
          all_goals first | exact gA | (exact getE_dII (by simp only [push_cast]; omega)) | (exact getE_dII (by omega)) | skip
          refine hL0 _ ⟨k + 1, by omega, by omega, ?_⟩
          rw [akI_yes (by unfold akB; with_reducible assumption), gvI_no (by unfold gvB; with_reducible assumption)]
          refine cov_of rfl ?_ ?_ ?_ <;> simp only [covS, covL, push_cast, ↓brB_true, ↓brB_false, ↓reduceIte, zA, zB, zC, zD, zE, zF, zG, zH, zI, reduceCtorEq]
      ·
        refine awp_skip ?_
        (try simp only [AThen, ABlk, reduceIte, zF]); refine hK4 _ ?_
        refine awp_seq' fun K hK => ?_
        refine awp_region tyOk tyPos [] rfl ?_
        all_goals refine aops_cut 10 fun K9 hK9 => ?_
        all_goals simp only [push_cast, ↓brB_true, ↓brB_false, ↓reduceIte, zA, zB, zC, zD, zE, zF, zG, zH, zI, reduceCtorEq]
        all_goals repeat' (first | (apply brB_mk <;> (intro hg; (try simp only [push_cast] at hg))) | (refine ⟨_, l16Has_fn (gp ps (gi r k).toNat).give v (hgg _), ?_⟩; simp only [push_cast, ↓brB_true, ↓brB_false, ↓reduceIte, zA, zB, zC, zD, zE, zF, zG, zH, zI, reduceCtorEq]) | apply And.intro | (intro hg; (try simp only [push_cast] at hg)))
        all_goals first | exact gA | (exact getE_dII (by simp only [push_cast]; omega)) | (exact getE_dII (by omega)) | skip
        all_goals first | (refine hK9 _ ?_; clear hK9 K9) | (simp only [push_cast]; done)
        all_goals simp only [push_cast, ↓brB_true, ↓brB_false, ↓reduceIte, zA, zB, zC, zD, zE, zF, zG, zH, zI, reduceCtorEq]
        all_goals repeat' (first | (apply brB_mk <;> (intro hg; (try simp only [push_cast] at hg))) | (refine ⟨_, l16Has_fn (gp ps (gi r k).toNat).give v (hgg _), ?_⟩; simp only [push_cast, ↓brB_true, ↓brB_false, ↓reduceIte, zA, zB, zC, zD, zE, zF, zG, zH, zI, reduceCtorEq]) | apply And.intro | (intro hg; (try simp only [push_cast] at hg)))
        all_goals first | exact gA | (exact getE_dII (by simp only [push_cast]; omega)) | (exact getE_dII (by omega)) | skip
        all_goals first | (refine hK _ ?_; clear hK K) | (simp only [push_cast]; done)
        refine awp_cond rfl (fun hc => ?_) (fun hc => ?_) <;> (try simp only [push_cast] at hc)
        ·
          refine awp_region tyOk tyPos [] rfl ?_
          all_goals simp only [push_cast, ↓brB_true, ↓brB_false, ↓reduceIte, zA, zB, zC, zD, zE, zF, zG, zH, zI, reduceCtorEq]
          all_goals repeat' (first | (apply brB_mk <;> (intro hg; (try simp only [push_cast] at hg))) | apply And.intro | (intro hg; (try simp only [push_cast] at hg)))
          all_goals first | exact gA | (exact getE_dII (by simp only [push_cast]; omega)) | (exact getE_dII (by omega)) | skip
          (try simp only [AThen, ABlk, reduceIte, zF]); refine hK3 _ ?_
          refine awp_region tyOk tyPos [] rfl ?_
          all_goals simp only [push_cast, ↓brB_true, ↓brB_false, ↓reduceIte, zA, zB, zC, zD, zE, zF, zG, zH, zI, reduceCtorEq]
          all_goals repeat' (first | (apply brB_mk <;> (intro hg; (try simp only [push_cast] at hg))) | apply And.intro | (intro hg; (try simp only [push_cast] at hg)))
          all_goals first | exact gA | (exact getE_dII (by simp only [push_cast]; omega)) | (exact getE_dII (by omega)) | skip
          refine hL0 _ ⟨k + 1, by omega, by omega, ?_⟩
          rw [akI_no (by unfold akB; with_reducible assumption), gvI_yes (by unfold gvB; with_reducible assumption)]
          refine cov_of rfl ?_ ?_ ?_ <;> simp only [covS, covL, push_cast, ↓brB_true, ↓brB_false, ↓reduceIte, zA, zB, zC, zD, zE, zF, zG, zH, zI, reduceCtorEq]
        ·
          refine awp_skip ?_
          (try simp only [AThen, ABlk, reduceIte, zF]); refine hK3 _ ?_
          refine awp_region tyOk tyPos [] rfl ?_
          all_goals simp only [push_cast, ↓brB_true, ↓brB_false, ↓reduceIte, zA, zB, zC, zD, zE, zF, zG, zH, zI, reduceCtorEq]
          all_goals repeat' (first | (apply brB_mk <;> (intro hg; (try simp only [push_cast] at hg))) | apply And.intro | (intro hg; (try simp only [push_cast] at hg)))
          all_goals first | exact gA | (exact getE_dII (by simp only [push_cast]; omega)) | (exact getE_dII (by omega)) | skip
          refine hL0 _ ⟨k + 1, by omega, by omega, ?_⟩
          rw [akI_no (by unfold akB; with_reducible assumption), gvI_no (by unfold gvB; with_reducible assumption)]
          refine cov_of rfl ?_ ?_ ?_ <;> simp only [covS, covL, push_cast, ↓brB_true, ↓brB_false, ↓reduceIte, zA, zB, zC, zD, zE, zF, zG, zH, zI, reduceCtorEq]
    ·
      refine awp_exit ?_
      have hkk : k = r.length := by omega
      subst hkk
      have har9 := har r.length
      have hgr9 := hgr r.length
      (try simp only [AThen, ABlk, reduceIte, zF]); refine hK1 _ ?_
      refine awp_seq' fun K5 hK5 => ?_
      refine awp_block ?_
      refine awp_seq' fun K hK => ?_
      refine awp_regionN false tyOk tyPos ?_ rfl ?_
      · kernel_rfl
      all_goals simp only [push_cast, ↓brB_true, ↓brB_false, ↓reduceIte, zA, zB, zC, zD, zE, zF, zG, zH, zI, reduceCtorEq]
      all_goals repeat' (first | (apply brB_mk <;> (intro hg; (try simp only [push_cast] at hg))) | apply And.intro | (intro hg; (try simp only [push_cast] at hg)))
      all_goals first | exact gA | (exact getE_dII (by simp only [push_cast]; omega)) | (exact getE_dII (by omega)) | skip
      all_goals first | (refine hK _ ?_; clear hK K) | (simp only [push_cast]; done)
      all_goals refine awp_cond rfl (fun hc => ?_) (fun hc => ?_)
      all_goals (first | (cases hc; done) | skip)
      all_goals (try simp only [push_cast] at hc)
      all_goals first
        | (
            refine awp_seq' fun K hK => ?_
            refine awp_region tyOk tyPos [] rfl ?_
            all_goals simp only [push_cast, ↓brB_true, ↓brB_false, ↓reduceIte, zA, zB, zC, zD, zE, zF, zG, zH, zI, reduceCtorEq]
            all_goals repeat' (first | (apply brB_mk <;> (intro hg; (try simp only [push_cast] at hg))) | apply And.intro | (intro hg; (try simp only [push_cast] at hg)))
            all_goals first | exact gA | (exact getE_dII (by simp only [push_cast]; omega)) | (exact getE_dII (by omega)) | skip
            all_goals first | (refine hK _ ?_; clear hK K) | (simp only [push_cast]; done)
            all_goals refine awp_cond rfl (fun hc => ?_) (fun hc => ?_)
            all_goals (first | (cases hc; done) | skip)
            all_goals (try simp only [push_cast] at hc)
            all_goals (first | (exfalso; omega) | skip)
            all_goals first
              | (
                  refine awp_skip ?_
                  (try simp only [AThen, ABlk, reduceIte, zF]); refine hK5 _ ?_
                  refine awp_seq' fun K hK => ?_
                  refine awp_region tyOk tyPos [] rfl ?_
                  all_goals simp only [push_cast, ↓brB_true, ↓brB_false, ↓reduceIte, zA, zB, zC, zD, zE, zF, zG, zH, zI, reduceCtorEq]
                  all_goals repeat' (first | (apply brB_mk <;> (intro hg; (try simp only [push_cast] at hg))) | apply And.intro | (intro hg; (try simp only [push_cast] at hg)))
                  all_goals first | exact gA | (exact getE_dII (by simp only [push_cast]; omega)) | (exact getE_dII (by omega)) | skip
                  all_goals first | (refine hK _ ?_; clear hK K) | (simp only [push_cast]; done)
                  refine awp_ret ?_
                  (try simp only [AThen, ABlk])
                  refine ⟨Or.inl rfl, ?_⟩
                  simp only [RetOk, push_cast, ↓brB_true, ↓brB_false, ↓reduceIte, zA, zB, zC, zD, zE, zF, zG, zH, zI, reduceCtorEq]
                  all_goals (unfold prV; split <;> (try split) <;> omega)
                  done)
              | (
                  refine awp_seq' fun K hK => ?_
                  refine awp_region tyOk tyPos [] rfl ?_
                  all_goals simp only [push_cast, ↓brB_true, ↓brB_false, ↓reduceIte, zA, zB, zC, zD, zE, zF, zG, zH, zI, reduceCtorEq]
                  all_goals repeat' (first | (apply brB_mk <;> (intro hg; (try simp only [push_cast] at hg))) | apply And.intro | (intro hg; (try simp only [push_cast] at hg)))
                  all_goals first | exact gA | (exact getE_dII (by simp only [push_cast]; omega)) | (exact getE_dII (by omega)) | skip
                  all_goals first | (refine hK _ ?_; clear hK K) | (simp only [push_cast]; done)
                  refine awp_ret ?_
                  (try simp only [AThen, ABlk])
                  refine ⟨Or.inl rfl, ?_⟩
                  simp only [RetOk, push_cast, ↓brB_true, ↓brB_false, ↓reduceIte, zA, zB, zC, zD, zE, zF, zG, zH, zI, reduceCtorEq]
                  all_goals (unfold prV; split <;> (try split) <;> omega)
                  done)
            done)
        | (
            refine awp_seq' fun K hK => ?_
            refine awp_region tyOk tyPos [] rfl ?_
            all_goals simp only [push_cast, ↓brB_true, ↓brB_false, ↓reduceIte, zA, zB, zC, zD, zE, zF, zG, zH, zI, reduceCtorEq]
            all_goals repeat' (first | (apply brB_mk <;> (intro hg; (try simp only [push_cast] at hg))) | apply And.intro | (intro hg; (try simp only [push_cast] at hg)))
            all_goals first | exact gA | (exact getE_dII (by simp only [push_cast]; omega)) | (exact getE_dII (by omega)) | skip
            all_goals first | (refine hK _ ?_; clear hK K) | (simp only [push_cast]; done)
            refine awp_ret ?_
            (try simp only [AThen, ABlk])
            refine ⟨Or.inl rfl, ?_⟩
            simp only [RetOk, push_cast, ↓brB_true, ↓brB_false, ↓reduceIte, zA, zB, zC, zD, zE, zF, zG, zH, zI, reduceCtorEq]
            all_goals (unfold prV; split <;> (try split) <;> omega)
            done)
end Go.Proofs.Ytklconkoamoabaa

namespace Go.Proofs.Ytklconkoamoabaa
open Go.RowKit
set_option linter.unusedVariables false
set_option linter.unusedSimpArgs false

theorem hasB_ix {s : List Int} {x : Int} : hasB s x = true ↔ ∃ j, j < s.length ∧ gi s j = x := by
  unfold hasB
  rw [decide_eq_true_eq]
  constructor
  · intro h; exact ⟨_, h, fidx_spec h⟩
  · rintro ⟨j, hj, e⟩
    rcases Nat.lt_or_ge (fidx s x) s.length with h | h
    · exact h
    · exact absurd e (fidx_before (by have := fidx_le s x; omega))
theorem gi_tk {s : List Int} {j k : Nat} (h : j < k) : gi (s.take k) j = gi s j := by
  unfold gi
  rw [List.getD_eq_getElem?_getD, List.getD_eq_getElem?_getD, List.getElem?_take_of_lt h]
def recAt (r : List Int) (n : Int) (i : Nat) : Bool := decide (0 ≤ gi r i ∧ gi r i < n) && !hasB (r.take i) (gi r i)
def recB (r : List Int) (n : Int) : Bool := decide ((0 ≤ n ∧ n ≤ 4) ∧ (r.length : Int) = n) && allB r.length (recAt r n)
theorem recAt_yes {r : List Int} {n : Int} {i : Nat} (h : 0 ≤ gi r i ∧ gi r i < n) (h2 : hasB (r.take i) (gi r i) = false) : recAt r n i = true := by unfold recAt; rw [decide_eq_true h, h2]; rfl
theorem recAt_rg {r : List Int} {n : Int} {i : Nat} (h : recAt r n i = true) : (0 ≤ gi r i ∧ gi r i < n) ∧ hasB (r.take i) (gi r i) = false := by
  unfold recAt at h
  rw [Bool.and_eq_true, decide_eq_true_eq, Bool.not_eq_true'] at h
  exact h
theorem recB_yes {r : List Int} {n : Int} (h : (0 ≤ n ∧ n ≤ 4) ∧ (r.length : Int) = n) (h2 : ∀ i, i < r.length → recAt r n i = true) : recB r n = true := by unfold recB; rw [decide_eq_true h, allB_true h2]; rfl
theorem rec_facts {r : List Int} {n : Int} (h : recB r n = true) : ((0 ≤ n ∧ n ≤ 4) ∧ (r.length : Int) = n) ∧ ∀ i, i < r.length → (0 ≤ gi r i ∧ gi r i < n) ∧ ∀ j, j < i → gi r j ≠ gi r i := by
  unfold recB at h
  rw [Bool.and_eq_true, decide_eq_true_eq] at h
  refine ⟨h.1, fun i hi => ?_⟩
  have h1 := recAt_rg (allB_at h.2 hi)
  refine ⟨h1.1, fun j hj e => ?_⟩
  have h2 : hasB (r.take i) (gi r i) = true := hasB_ix.2 ⟨j, by rw [List.length_take]; omega, by rw [gi_tk hj]; exact e⟩
  rw [h1.2] at h2
  cases h2
end Go.Proofs.Ytklconkoamoabaa

namespace Go.Proofs.Ytklconkoamoabaa
open Go.RowKit
set_option linter.unusedVariables false
set_option linter.unusedSimpArgs false

def gvP (ps : List Pr) (v x : Int) : Bool := hasB (gp ps x.toNat).give v
def nxL (ps : List Pr) (r : List Int) (v : Int) : List Int := nrF ps r v r.length ++ nrR ps r v r.length
theorem tkR_s {r : List Int} {k : Nat} (h : k < r.length) : r.take (k + 1) = r.take k ++ [gi r k] := by
  rw [List.take_succ_eq_append_getElem h]
  unfold gi
  rw [List.getD_eq_getElem?_getD, List.getElem?_eq_getElem h]
  rfl
theorem nrF_take (ps : List Pr) (r : List Int) (v : Int) : ∀ k, k ≤ r.length → nrF ps r v k = (r.take k).filter (gvP ps v)
  | 0, _ => by rw [List.take_zero]; rfl
  | k + 1, h => by
    have ih := nrF_take ps r v k (by omega)
    rw [tkR_s (by omega), List.filter_append]
    cases hb : gvB ps r v k with
    | true => rw [nrF_yes hb, ih, List.filter_cons, if_pos (show gvP ps v (gi r k) = true from hb)]; rfl
    | false => rw [nrF_no hb, ih, List.filter_cons, if_neg (show ¬ gvP ps v (gi r k) = true from (by rw [show gvP ps v (gi r k) = false from hb]; decide))]; simp
theorem nrR_take (ps : List Pr) (r : List Int) (v : Int) : ∀ k, k ≤ r.length → nrR ps r v k = (r.take k).filter (fun x => !gvP ps v x)
  | 0, _ => by rw [List.take_zero]; rfl
  | k + 1, h => by
    have ih := nrR_take ps r v k (by omega)
    rw [tkR_s (by omega), List.filter_append]
    cases hb : gvB ps r v k with
    | true => rw [nrR_yes hb, ih, List.filter_cons, if_neg (show ¬ (!gvP ps v (gi r k)) = true from (by rw [show gvP ps v (gi r k) = true from hb]; decide))]; simp
    | false => rw [nrR_no hb, ih, List.filter_cons, if_pos (show (!gvP ps v (gi r k)) = true from (by rw [show gvP ps v (gi r k) = false from hb]; rfl))]; rfl
theorem nxL_eq (ps : List Pr) (r : List Int) (v : Int) : nxL ps r v = r.filter (gvP ps v) ++ r.filter (fun x => !gvP ps v x) := by
  unfold nxL
  rw [nrF_take ps r v _ (Nat.le_refl _), nrR_take ps r v _ (Nat.le_refl _), List.take_length]
theorem nxL_perm (ps : List Pr) (r : List Int) (v : Int) : (nxL ps r v).Perm r := by
  rw [nxL_eq]
  exact List.filter_append_perm _ _
theorem giR_mem {r : List Int} {i : Nat} (h : i < r.length) : gi r i ∈ r := by
  unfold gi
  rw [List.getD_eq_getElem?_getD, List.getElem?_eq_getElem h]
  exact List.getElem_mem h
theorem memR_gi {r : List Int} {x : Int} (h : x ∈ r) : ∃ i, i < r.length ∧ gi r i = x := by
  obtain ⟨i, hi, e⟩ := List.mem_iff_getElem.1 h
  refine ⟨i, hi, ?_⟩
  unfold gi
  rw [List.getD_eq_getElem?_getD, List.getElem?_eq_getElem hi]
  exact e
theorem giR_get {r : List Int} {i : Nat} (h : i < r.length) : gi r i = r[i] := by
  unfold gi
  rw [List.getD_eq_getElem?_getD, List.getElem?_eq_getElem h]
  rfl
theorem rec_nodup {r : List Int} {n : Int} (h : recB r n = true) : ((0 ≤ n ∧ n ≤ 4) ∧ (r.length : Int) = n) ∧ (∀ x ∈ r, 0 ≤ x ∧ x < n) ∧ r.Nodup := by
  have hf := rec_facts h
  refine ⟨hf.1, fun x hx => ?_, ?_⟩
  · obtain ⟨i, hi, rfl⟩ := memR_gi hx
    exact (hf.2 i hi).1
  · rw [List.Nodup, List.pairwise_iff_getElem]
    intro i j hi hj hij
    rw [← giR_get hi, ← giR_get hj]
    exact (hf.2 j hj).2 i hij
theorem rec_of {r : List Int} {n : Int} (h1 : (0 ≤ n ∧ n ≤ 4) ∧ (r.length : Int) = n) (h2 : ∀ x ∈ r, 0 ≤ x ∧ x < n) (h3 : r.Nodup) : recB r n = true := by
  refine recB_yes h1 fun i hi => recAt_yes (h2 _ (giR_mem hi)) ?_
  cases hb : hasB (r.take i) (gi r i) with
  | false => rfl
  | true =>
    obtain ⟨j, hj, e⟩ := hasB_ix.1 hb
    rw [List.length_take] at hj
    rw [gi_tk (by omega), giR_get (by omega), giR_get hi] at e
    have := (List.pairwise_iff_getElem.1 h3) j i (by omega) hi (by omega)
    exact absurd e this
theorem rec_next {ps : List Pr} {r : List Int} {n v : Int} (h : recB r n = true) : recB (nxL ps r v) n = true := by
  have hf := rec_nodup h
  have hp := nxL_perm ps r v
  refine rec_of ⟨hf.1.1, ?_⟩ (fun x hx => hf.2.1 x (hp.mem_iff.1 hx)) (hp.nodup_iff.2 hf.2.2)
  rw [hp.length_eq]
  exact hf.1.2
def prioP (ps : List Pr) (r : List Int) (v : Int) : Int := prV (akI ps r v r.length) (gvI ps r v r.length)
attribute [irreducible] nxL prioP
end Go.Proofs.Ytklconkoamoabaa

namespace Go.Proofs.Ytklconkoamoabaa
open Go.RowKit
set_option linter.unusedVariables false
set_option linter.unusedSimpArgs false

def iotR (k : Nat) : List Int := (List.range k).map Int.ofNat
theorem iotR_s (k : Nat) : iotR (k + 1) = iotR k ++ [(k : Int)] := by unfold iotR; rw [List.range_succ, List.map_append]; rfl
theorem iotR_len (k : Nat) : (iotR k).length = k := by simp [iotR]
theorem iotR_rec {k : Nat} (h : k ≤ 4) : recB (iotR k) (k : Int) = true := by
  refine rec_of ⟨⟨by omega, by omega⟩, by rw [iotR_len]⟩ (fun x hx => ?_) ?_
  · unfold iotR at hx
    obtain ⟨j, hj, rfl⟩ := List.mem_map.1 hx
    have := List.mem_range.1 hj
    show 0 ≤ (j : Int) ∧ (j : Int) < k
    omega
  · unfold iotR
    rw [List.Nodup, List.pairwise_map]
    exact List.Pairwise.imp (fun {a b} h e => h (Int.ofNat.inj e)) List.nodup_range
def rcR (ps : List Pr) (p : Plc) : List Int := nxL ps p.record p.at_
def prR (ps : List Pr) (p : Plc) : Int := prioP ps p.record p.at_
def rgC (a : Ar) (ps : List Pr) (s : Int) : Bool := arenaB a && (arB ps a.owner.length && decide (0 ≤ s ∧ s ≤ (a.owner.length : Int) - 1))
def rgB (a : Ar) (ps : List Pr) (s : Int) : Bool := rgC a ps s && okQ (usA a) (rcR ps) ⟨s, iotR ps.length⟩
def rgG (a : Ar) (ps : List Pr) (s : Int) : Pa := gmR a (rcR ps) (prR ps) ⟨s, iotR ps.length⟩ (rgC a ps s)
def rgP (a : Ar) (ps : List Pr) (s : Int) : List Plc := plR a (rcR ps) ⟨s, iotR ps.length⟩ (rgC a ps s)
theorem arB_le {ps : List Pr} {n : Int} (h : arB ps n = true) : ps.length ≤ 4 := by
  unfold arB at h
  rw [Bool.and_eq_true, decide_eq_true_eq] at h
  exact h.1
theorem rgC_facts {a : Ar} {ps : List Pr} {s : Int} (h : rgC a ps s = true) : arenaB a = true ∧ ps.length ≤ 4 ∧ PlOk a (rcR ps) ⟨s, iotR ps.length⟩ (fun r => recB r ps.length = true) 4 := by
  unfold rgC at h
  rw [Bool.and_eq_true, Bool.and_eq_true, decide_eq_true_eq] at h
  obtain ⟨h1, h2, h3⟩ := h
  have h4 := arB_le h2
  exact ⟨h1, h4, ⟨⟨h3.1, by show s < _; omega, iotR_rec h4⟩, fun p _ _ h => rec_next h, fun r hr => by have := (rec_facts hr).1; omega⟩⟩
theorem rgG_len {a : Ar} {ps : List Pr} {s : Int} : (rgG a ps s).Ln 1048576 := gmR_Ln (V := fun r => recB r ps.length = true) (B := 4) fun h => ⟨(rgC_facts h).1, (rgC_facts h).2.2⟩
theorem rgP_len {a : Ar} {ps : List Pr} {s : Int} : QLn 1048576 (rgP a ps s) := plR_Ln (V := fun r => recB r ps.length = true) (B := 4) (by decide) fun h => ⟨(rgC_facts h).1, (rgC_facts h).2.2⟩
theorem rg_no1 {a : Ar} {ps : List Pr} {s : Int} (h : rgC a ps s = false) : rgB a ps s = false ∧ rgG a ps s = ⟨⟨[], []⟩, []⟩ ∧ rgP a ps s = [] := by
  have : (rgC a ps s && okQ (usA a) (rcR ps) ⟨s, iotR ps.length⟩) = false := by rw [h]; rfl
  exact ⟨this, gmR_no this, plR_no this⟩
theorem rg_no2 {a : Ar} {ps : List Pr} {s : Int} (h : okQ (usA a) (rcR ps) ⟨s, iotR ps.length⟩ = false) : rgB a ps s = false ∧ rgG a ps s = ⟨⟨[], []⟩, []⟩ ∧ rgP a ps s = [] := by
  have : (rgC a ps s && okQ (usA a) (rcR ps) ⟨s, iotR ps.length⟩) = false := by rw [h, Bool.and_false]
  exact ⟨this, gmR_no this, plR_no this⟩
theorem rgC_no1 {a : Ar} {ps : List Pr} {s : Int} (h : arenaB a = false) : rgC a ps s = false := by unfold rgC; rw [h]; rfl
theorem rgC_no2 {a : Ar} {ps : List Pr} {s : Int} (h : arB ps a.owner.length = false) : rgC a ps s = false := by unfold rgC; rw [h, Bool.false_and, Bool.and_false]
theorem rgC_no3 {a : Ar} {ps : List Pr} {s : Int} (h : ¬ (0 ≤ s ∧ s ≤ (a.owner.length : Int) - 1)) : rgC a ps s = false := by unfold rgC; rw [decide_eq_false h, Bool.and_false, Bool.and_false]
theorem rgC_yes {a : Ar} {ps : List Pr} {s : Int} (h1 : arenaB a = true) (h2 : arB ps a.owner.length = true) (h3 : 0 ≤ s ∧ s ≤ (a.owner.length : Int) - 1) : rgC a ps s = true := by unfold rgC; rw [h1, h2, decide_eq_true h3]; rfl
end Go.Proofs.Ytklconkoamoabaa
