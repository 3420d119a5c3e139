/- records of pairs: the record after a visit -/
import Derived.Test.YtdbecmmeifdafaaB7zrs
namespace Go.Proofs.Ytdbecmmeifdafaa
open Nat renaming reduceMod → zA, reduceMul → zB, reduceDiv → zC, reduceAdd → zD, reduceSub → zE, reduceEqDiff → zF, reduceBEq → zG, reduceLT → zH, reduceLeDiff → zI
open Go.RowKit
set_option linter.unusedVariables false
set_option linter.unusedSimpArgs false

attribute [-push_cast] rm
def gvB (ps : List Pr) (r : List Int) (v : Int) (i : Nat) : Bool := hasB (gp ps (gi r i).toNat).give v
def nrF (ps : List Pr) (r : List Int) (v : Int) : Nat → List Int
  | 0 => []
  | i + 1 => if gvB ps r v i = true then nrF ps r v i ++ [gi r i] else nrF ps r v i
def nrR (ps : List Pr) (r : List Int) (v : Int) : Nat → List Int
  | 0 => []
  | i + 1 => if gvB ps r v i = true then nrR ps r v i else nrR ps r v i ++ [gi r i]
theorem nrF_yes {ps : List Pr} {r : List Int} {v : Int} {i : Nat} (h : gvB ps r v i = true) : nrF ps r v (i + 1) = nrF ps r v i ++ [gi r i] := if_pos h
theorem nrF_no {ps : List Pr} {r : List Int} {v : Int} {i : Nat} (h : gvB ps r v i = false) : nrF ps r v (i + 1) = nrF ps r v i := if_neg (by rw [h]; decide)
theorem nrR_yes {ps : List Pr} {r : List Int} {v : Int} {i : Nat} (h : gvB ps r v i = true) : nrR ps r v (i + 1) = nrR ps r v i := if_pos h
theorem nrR_no {ps : List Pr} {r : List Int} {v : Int} {i : Nat} (h : gvB ps r v i = false) : nrR ps r v (i + 1) = nrR ps r v i ++ [gi r i] := if_neg (by rw [h]; decide)
theorem nr_len (ps : List Pr) (r : List Int) (v : Int) : ∀ i, (nrF ps r v i).length + (nrR ps r v i).length = i
  | 0 => rfl
  | i + 1 => by
    have h := nr_len ps r v i
    cases hb : gvB ps r v i with
    | true => rw [nrF_yes hb, nrR_yes hb, List.length_append, List.length_singleton]; omega
    | false => rw [nrF_no hb, nrR_no hb, List.length_append, List.length_singleton]; omega
set_option maxRecDepth 20000 in
set_option maxHeartbeats 4000000 in
theorem nextRecI_fn (ps : List Pr) (ha : PLn 1048576 ps) (r : List Int) (hr : r.length ≤ 1048576) (hrr : ∀ i, i < r.length → 0 ≤ gi r i ∧ gi r i < (ps.length : Int)) (v : Int) : Fn Try.prog tyT 90 [.c (.lst 66 (dII (ilv ps))), .c (DI r), .c (.int .i64 v)] [.c (DI (nrF ps r v r.length ++ nrR ps r v r.length))] := by
  have hl := ha.1
  have hg := fun k => gp_le ha k
  have hgg : ∀ k, (gp ps k).give.length ≤ 1048576 := fun k => (hg k).give
  have hli := len_ilv ps
  have hnl := nr_len ps r v
  refine Fn_of (fn := Try.f90) (ts := [6]) Try.func90 (by kernel_rfl) rfl rfl (by rw [Try.ntmps90]; exact Nat.le_of_ble_eq_true rfl) rfl (by simp only [szA, List.mem_cons, List.not_mem_nil, or_false, forall_eq_or_imp, forall_eq, VT.cells, szL]; try decide) ?_
  rw [Try.ntmps90]
  simp only [push_cast, ↓brB_true, ↓brB_false, ↓reduceIte, zA, zB, zC, zD, zE, zF, zG, zH, zI, reduceCtorEq]
  refine awp_seq' fun K hK => ?_
  refine awp_region tyOk tyPos [] rfl ?_
  all_goals simp only [push_cast, ↓brB_true, ↓brB_false, ↓reduceIte, zA, zB, zC, zD, zE, zF, zG, zH, zI, reduceCtorEq]
  all_goals repeat' (first | (apply brB_mk <;> (intro hg; (try simp only [push_cast] at hg))) | apply And.intro | (intro hg; (try simp only [push_cast] at hg)))
  all_goals first | exact gA | (exact getE_dII (by simp only [push_cast]; omega)) | (exact getE_dII (by omega)) | skip
  all_goals first | (refine hK _ ?_; clear hK K) | (simp only [push_cast]; done)
  refine awp_seq' fun K hK => ?_
  refine awp_region tyOk tyPos [] rfl ?_
  all_goals simp only [push_cast, ↓brB_true, ↓brB_false, ↓reduceIte, zA, zB, zC, zD, zE, zF, zG, zH, zI, reduceCtorEq]
  all_goals repeat' (first | (apply brB_mk <;> (intro hg; (try simp only [push_cast] at hg))) | apply And.intro | (intro hg; (try simp only [push_cast] at hg)))
  all_goals first | exact gA | (exact getE_dII (by simp only [push_cast]; omega)) | (exact getE_dII (by omega)) | skip
  all_goals first | (refine hK _ ?_; clear hK K) | (simp only [push_cast]; done)
  refine awp_seq' fun K1 hK1 => ?_
  refine awp_seq' fun K hK => ?_
  refine awp_region tyOk tyPos [] rfl ?_
  all_goals simp only [push_cast, ↓brB_true, ↓brB_false, ↓reduceIte, zA, zB, zC, zD, zE, zF, zG, zH, zI, reduceCtorEq]
  all_goals repeat' (first | (apply brB_mk <;> (intro hg; (try simp only [push_cast] at hg))) | apply And.intro | (intro hg; (try simp only [push_cast] at hg)))
  all_goals first | exact gA | (exact getE_dII (by simp only [push_cast]; omega)) | (exact getE_dII (by omega)) | skip
  all_goals first | (refine hK _ ?_; clear hK K) | (simp only [push_cast]; done)
  refine awp_block ?_
  refine awp_loopU [7,8,10,15,16,17,18,19,20,21,22,23,24,25,26,27,28,29,30,31,32,33,34] [112,128] (fun (k : Nat) => [(15, .int .i64 k), (7, .sl 112 [] 0 (nrF ps r v k).length 2), (8, .sl 128 [] 0 (nrR ps r v k).length 2)]) (fun k => []) (fun k => [(112, ⟨.ex, 2, dI (nrF ps r v k), none⟩), (128, ⟨.ex, 2, dI (nrR ps r v k), none⟩)]) (fun k => k ≤ r.length) (fun k => r.length - k) 0 ?_ (by omega) ?_
  ·
    rw [show nrF ps r v 0 = [] from rfl, show nrR ps r v 0 = [] from rfl, show dI ([] : List Int) = [] from rfl]
    refine cov_of rfl ?_ ?_ ?_ <;> simp only [covS, covL, push_cast, ↓brB_true, ↓brB_false, ↓reduceIte, zA, zB, zC, zD, zE, zF, zG, zH, zI, reduceCtorEq]
  · rintro k hk KL0 hL0
    simp only [push_cast, ↓brB_true, ↓brB_false, ↓reduceIte, zA, zB, zC, zD, zE, zF, zG, zH, zI, reduceCtorEq]
    refine awp_seq' fun K hK => ?_
    refine awp_region tyOk tyPos [] rfl ?_
    all_goals simp only [push_cast, ↓brB_true, ↓brB_false, ↓reduceIte, zA, zB, zC, zD, zE, zF, zG, zH, zI, reduceCtorEq]
    all_goals repeat' (first | (apply brB_mk <;> (intro hg; (try simp only [push_cast] at hg))) | apply And.intro | (intro hg; (try simp only [push_cast] at hg)))
    all_goals first | exact gA | (exact getE_dII (by simp only [push_cast]; omega)) | (exact getE_dII (by omega)) | skip
    all_goals first | (refine hK _ ?_; clear hK K) | (simp only [push_cast]; done)
    refine awp_seq' fun K2 hK2 => ?_
    refine awp_cond rfl (fun hc => ?_) (fun hc => ?_) <;> (try simp only [push_cast] at hc)
    ·
      refine awp_skip ?_
      (try simp only [AThen, ABlk, reduceIte, zF]); refine hK2 _ ?_
      refine awp_seq' fun K3 hK3 => ?_
      refine awp_block ?_
      have hrk := hrr k (by omega)
      have hnk := hnl k
      refine awp_seq' fun K hK => ?_
      refine awp_region tyOk tyPos [] rfl ?_
      all_goals simp only [push_cast, ↓brB_true, ↓brB_false, ↓reduceIte, zA, zB, zC, zD, zE, zF, zG, zH, zI, reduceCtorEq]
      all_goals repeat' (first | (apply brB_mk <;> (intro hg; (try simp only [push_cast] at hg))) | apply And.intro | (intro hg; (try simp only [push_cast] at hg)))
      all_goals first | exact gA | (exact getE_dII (by simp only [push_cast]; omega)) | (exact getE_dII (by omega)) | skip
      all_goals first | (refine hK _ ?_; clear hK K) | (simp only [push_cast]; done)
      refine awp_seq' fun K hK => ?_
      refine awp_region tyOk tyPos [] rfl ?_
      all_goals refine aops_cut 7 fun K9 hK9 => ?_
      all_goals simp only [push_cast, ↓brB_true, ↓brB_false, ↓reduceIte, zA, zB, zC, zD, zE, zF, zG, zH, zI, reduceCtorEq]
      all_goals repeat' (first | (apply brB_mk <;> (intro hg; (try simp only [push_cast] at hg))) | (refine ⟨_, Contains_fn (gp ps (gi r k).toNat).give v (hgg _), ?_⟩; simp only [push_cast, ↓brB_true, ↓brB_false, ↓reduceIte, zA, zB, zC, zD, zE, zF, zG, zH, zI, reduceCtorEq]) | apply And.intro | (intro hg; (try simp only [push_cast] at hg)))
      all_goals first | exact gA | (exact getE_dII (by simp only [push_cast]; omega)) | (exact getE_dII (by omega)) | skip
      all_goals first | (refine hK9 _ ?_; clear hK9 K9) | (simp only [push_cast]; done)
      all_goals simp only [push_cast, ↓brB_true, ↓brB_false, ↓reduceIte, zA, zB, zC, zD, zE, zF, zG, zH, zI, reduceCtorEq]
      all_goals repeat' (first | (apply brB_mk <;> (intro hg; (try simp only [push_cast] at hg))) | (refine ⟨_, Contains_fn (gp ps (gi r k).toNat).give v (hgg _), ?_⟩; simp only [push_cast, ↓brB_true, ↓brB_false, ↓reduceIte, zA, zB, zC, zD, zE, zF, zG, zH, zI, reduceCtorEq]) | apply And.intro | (intro hg; (try simp only [push_cast] at hg)))
      all_goals first | exact gA | (exact getE_dII (by simp only [push_cast]; omega)) | (exact getE_dII (by omega)) | skip
      all_goals first | (refine hK _ ?_; clear hK K) | (simp only [push_cast]; done)
      refine awp_cond rfl (fun hc => ?_) (fun hc => ?_) <;> (try simp only [push_cast] at hc)
      ·
        refine awp_region tyOk tyPos [] rfl ?_
        all_goals simp only [push_cast, ↓brB_true, ↓brB_false, ↓reduceIte, zA, zB, zC, zD, zE, zF, zG, zH, zI, reduceCtorEq]
        all_goals repeat' (first | (apply brB_mk <;> (intro hg; (try simp only [push_cast] at hg))) | apply And.intro | (intro hg; (try simp only [push_cast] at hg)))
        all_goals first | exact gA | (exact getE_dII (by simp only [push_cast]; omega)) | (exact getE_dII (by omega)) | skip
        (try simp only [AThen, ABlk, reduceIte, zF]); refine hK3 _ ?_
        refine awp_region tyOk tyPos [] rfl ?_
        all_goals simp only [push_cast, ↓brB_true, ↓brB_false, ↓reduceIte, zA, zB, zC, zD, zE, zF, zG, zH, zI, reduceCtorEq]
        all_goals repeat' (first | (apply brB_mk <;> (intro hg; (try simp only [push_cast] at hg))) | apply And.intro | (intro hg; (try simp only [push_cast] at hg)))
        all_goals first | exact gA | (exact getE_dII (by simp only [push_cast]; omega)) | (exact getE_dII (by omega)) | skip
        refine hL0 _ ⟨k + 1, by omega, by omega, ?_⟩
        rw [nrF_yes (by unfold gvB; with_reducible assumption), nrR_yes (by unfold gvB; with_reducible assumption)]
        refine cov_of rfl ?_ ?_ ?_ <;> simp only [covS, covL, push_cast, ↓brB_true, ↓brB_false, ↓reduceIte, zA, zB, zC, zD, zE, zF, zG, zH, zI, reduceCtorEq]
        all_goals (try (rw [List.length_append]; rfl))
      ·
        refine awp_region tyOk tyPos [] rfl ?_
        all_goals simp only [push_cast, ↓brB_true, ↓brB_false, ↓reduceIte, zA, zB, zC, zD, zE, zF, zG, zH, zI, reduceCtorEq]
        all_goals repeat' (first | (apply brB_mk <;> (intro hg; (try simp only [push_cast] at hg))) | apply And.intro | (intro hg; (try simp only [push_cast] at hg)))
        all_goals first | exact gA | (exact getE_dII (by simp only [push_cast]; omega)) | (exact getE_dII (by omega)) | skip
        (try simp only [AThen, ABlk, reduceIte, zF]); refine hK3 _ ?_
        refine awp_region tyOk tyPos [] rfl ?_
        all_goals simp only [push_cast, ↓brB_true, ↓brB_false, ↓reduceIte, zA, zB, zC, zD, zE, zF, zG, zH, zI, reduceCtorEq]
        all_goals repeat' (first | (apply brB_mk <;> (intro hg; (try simp only [push_cast] at hg))) | apply And.intro | (intro hg; (try simp only [push_cast] at hg)))
        all_goals first | exact gA | (exact getE_dII (by simp only [push_cast]; omega)) | (exact getE_dII (by omega)) | skip
        refine hL0 _ ⟨k + 1, by omega, by omega, ?_⟩
        rw [nrF_no (by unfold gvB; with_reducible assumption), nrR_no (by unfold gvB; with_reducible assumption)]
        refine cov_of rfl ?_ ?_ ?_ <;> simp only [covS, covL, push_cast, ↓brB_true, ↓brB_false, ↓reduceIte, zA, zB, zC, zD, zE, zF, zG, zH, zI, reduceCtorEq]
        all_goals (try (rw [List.length_append]; rfl))
    ·
      refine awp_exit ?_
      have hkk : k = r.length := by omega
      subst hkk
      have hnk9 := hnl r.length
      (try simp only [AThen, ABlk, reduceIte, zF]); refine hK1 _ ?_
      refine awp_seq' fun K hK => ?_
      refine awp_region tyOk tyPos [] rfl ?_
      all_goals simp only [push_cast, ↓brB_true, ↓brB_false, ↓reduceIte, zA, zB, zC, zD, zE, zF, zG, zH, zI, reduceCtorEq]
      all_goals repeat' (first | (apply brB_mk <;> (intro hg; (try simp only [push_cast] at hg))) | apply And.intro | (intro hg; (try simp only [push_cast] at hg)))
      all_goals first | exact gA | (exact getE_dII (by simp only [push_cast]; omega)) | (exact getE_dII (by omega)) | skip
      all_goals first | (refine hK _ ?_; clear hK K) | (simp only [push_cast]; done)
      refine awp_ret ?_
      (try simp only [AThen, ABlk])
      refine ⟨Or.inl rfl, ?_⟩
      simp only [RetOk, push_cast, ↓brB_true, ↓brB_false, ↓reduceIte, zA, zB, zC, zD, zE, zF, zG, zH, zI, reduceCtorEq]
      first | exact List.length_append.symm | exact ⟨rfl, List.length_append.symm⟩ | skip
end Go.Proofs.Ytdbecmmeifdafaa

namespace Go.Proofs.Ytdbecmmeifdafaa
open Nat renaming reduceMod → zA, reduceMul → zB, reduceDiv → zC, reduceAdd → zD, reduceSub → zE, reduceEqDiff → zF, reduceBEq → zG, reduceLT → zH, reduceLeDiff → zI
open Go.RowKit
set_option linter.unusedVariables false
set_option linter.unusedSimpArgs false

attribute [-push_cast] rm
def akB (ps : List Pr) (r : List Int) (v : Int) (i : Nat) : Bool := hasB (gp ps (gi r i).toNat).ask v
def akI (ps : List Pr) (r : List Int) (v : Int) : Nat → Int
  | 0 => -1
  | i + 1 => if akB ps r v i = true then (i : Int) else akI ps r v i
def gvI (ps : List Pr) (r : List Int) (v : Int) : Nat → Int
  | 0 => -1
  | i + 1 => if gvB ps r v i = true then (i : Int) else gvI ps r v i
theorem akI_yes {ps : List Pr} {r : List Int} {v : Int} {i : Nat} (h : akB ps r v i = true) : akI ps r v (i + 1) = i := if_pos h
theorem akI_no {ps : List Pr} {r : List Int} {v : Int} {i : Nat} (h : akB ps r v i = false) : akI ps r v (i + 1) = akI ps r v i := if_neg (by rw [h]; decide)
theorem gvI_yes {ps : List Pr} {r : List Int} {v : Int} {i : Nat} (h : gvB ps r v i = true) : gvI ps r v (i + 1) = i := if_pos h
theorem gvI_no {ps : List Pr} {r : List Int} {v : Int} {i : Nat} (h : gvB ps r v i = false) : gvI ps r v (i + 1) = gvI ps r v i := if_neg (by rw [h]; decide)
theorem akI_rg (ps : List Pr) (r : List Int) (v : Int) : ∀ i, -1 ≤ akI ps r v i ∧ akI ps r v i < i
  | 0 => by show (-1 : Int) ≤ -1 ∧ (-1 : Int) < 0; omega
  | i + 1 => by
    have h := akI_rg ps r v i
    cases hb : akB ps r v i with
    | true => rw [akI_yes hb]; omega
    | false => rw [akI_no hb]; omega
theorem gvI_rg (ps : List Pr) (r : List Int) (v : Int) : ∀ i, -1 ≤ gvI ps r v i ∧ gvI ps r v i < i
  | 0 => by show (-1 : Int) ≤ -1 ∧ (-1 : Int) < 0; omega
  | i + 1 => by
    have h := gvI_rg ps r v i
    cases hb : gvB ps r v i with
    | true => rw [gvI_yes hb]; omega
    | false => rw [gvI_no hb]; omega
def prV (a g : Int) : Int := if a < 0 ∧ g < 0 then 0 else if g < a then 2 * a + 1 else 2 * g + 2
set_option maxRecDepth 20000 in
set_option maxHeartbeats 4000000 in
theorem recPrioI_fn (ps : List Pr) (ha : PLn 1048576 ps) (r : List Int) (hr : r.length ≤ 1048576) (hrr : ∀ i, i < r.length → 0 ≤ gi r i ∧ gi r i < (ps.length : Int)) (v : Int) : Fn Try.prog tyT 91 [.c (.lst 66 (dII (ilv ps))), .c (DI r), .c (.int .i64 v)] [.c (.int .i64 (prV (akI ps r v r.length) (gvI ps r v r.length)))] := by
  have hl := ha.1
  have hg := fun k => gp_le ha k
  have hga : ∀ k, (gp ps k).ask.length ≤ 1048576 := fun k => (hg k).ask
  have hgg : ∀ k, (gp ps k).give.length ≤ 1048576 := fun k => (hg k).give
  have hli := len_ilv ps
  have har := akI_rg ps r v
  have hgr := gvI_rg ps r v
  refine Fn_of (fn := Try.f91) (ts := [6]) Try.func91 (by kernel_rfl) rfl rfl (by rw [Try.ntmps91]; exact Nat.le_of_ble_eq_true rfl) rfl (by simp only [szA, List.mem_cons, List.not_mem_nil, or_false, forall_eq_or_imp, forall_eq, VT.cells, szL]; try decide) ?_
  rw [Try.ntmps91]
  simp only [push_cast, ↓brB_true, ↓brB_false, ↓reduceIte, zA, zB, zC, zD, zE, zF, zG, zH, zI, reduceCtorEq]
  refine awp_seq' fun K hK => ?_
  refine awp_region tyOk tyPos [] rfl ?_
  all_goals simp only [push_cast, ↓brB_true, ↓brB_false, ↓reduceIte, zA, zB, zC, zD, zE, zF, zG, zH, zI, reduceCtorEq]
  all_goals repeat' (first | (apply brB_mk <;> (intro hg; (try simp only [push_cast] at hg))) | apply And.intro | (intro hg; (try simp only [push_cast] at hg)))
  all_goals first | exact gA | (exact getE_dII (by simp only [push_cast]; omega)) | (exact getE_dII (by omega)) | skip
  all_goals first | (refine hK _ ?_; clear hK K) | (simp only [push_cast]; done)
  refine awp_seq' fun K hK => ?_
  refine awp_region tyOk tyPos [] rfl ?_
  all_goals simp only [push_cast, ↓brB_true, ↓brB_false, ↓reduceIte, zA, zB, zC, zD, zE, zF, zG, zH, zI, reduceCtorEq]
  all_goals repeat' (first | (apply brB_mk <;> (intro hg; (try simp only [push_cast] at hg))) | apply And.intro | (intro hg; (try simp only [push_cast] at hg)))
  all_goals first | exact gA | (exact getE_dII (by simp only [push_cast]; omega)) | (exact getE_dII (by omega)) | skip
  all_goals first | (refine hK _ ?_; clear hK K) | (simp only [push_cast]; done)
  refine awp_seq' fun K1 hK1 => ?_
  refine awp_seq' fun K hK => ?_
  refine awp_region tyOk tyPos [] rfl ?_
  all_goals simp only [push_cast, ↓brB_true, ↓brB_false, ↓reduceIte, zA, zB, zC, zD, zE, zF, zG, zH, zI, reduceCtorEq]
  all_goals repeat' (first | (apply brB_mk <;> (intro hg; (try simp only [push_cast] at hg))) | apply And.intro | (intro hg; (try simp only [push_cast] at hg)))
  all_goals first | exact gA | (exact getE_dII (by simp only [push_cast]; omega)) | (exact getE_dII (by omega)) | skip
  all_goals first | (refine hK _ ?_; clear hK K) | (simp only [push_cast]; done)
  refine awp_block ?_
  refine awp_loopU [7,8,9,10,13,14,15,16,17,18,19,20,21,22,23,24,25,26,27,28,29,30,31,32,33,34] [] (fun (k : Nat) => [(13, .int .i64 k), (7, .int .i64 (akI ps r v k)), (8, .int .i64 (gvI ps r v k))]) (fun k => []) (fun k => []) (fun k => k ≤ r.length) (fun k => r.length - k) 0 ?_ (by omega) ?_
  ·
    rw [show akI ps r v 0 = -1 from rfl, show gvI ps r v 0 = -1 from rfl]
    refine cov_of rfl ?_ ?_ ?_ <;> simp only [covS, covL, push_cast, ↓brB_true, ↓brB_false, ↓reduceIte, zA, zB, zC, zD, zE, zF, zG, zH, zI, reduceCtorEq]
  · rintro k hk KL0 hL0
    simp only [push_cast, ↓brB_true, ↓brB_false, ↓reduceIte, zA, zB, zC, zD, zE, zF, zG, zH, zI, reduceCtorEq]
    refine awp_seq' fun K hK => ?_
    refine awp_region tyOk tyPos [] rfl ?_
    all_goals simp only [push_cast, ↓brB_true, ↓brB_false, ↓reduceIte, zA, zB, zC, zD, zE, zF, zG, zH, zI, reduceCtorEq]
    all_goals repeat' (first | (apply brB_mk <;> (intro hg; (try simp only [push_cast] at hg))) | apply And.intro | (intro hg; (try simp only [push_cast] at hg)))
    all_goals first | exact gA | (exact getE_dII (by simp only [push_cast]; omega)) | (exact getE_dII (by omega)) | skip
    all_goals first | (refine hK _ ?_; clear hK K) | (simp only [push_cast]; done)
    refine awp_seq' fun K2 hK2 => ?_
    refine awp_cond rfl (fun hc => ?_) (fun hc => ?_) <;> (try simp only [push_cast] at hc)
    ·
      refine awp_skip ?_
      (try simp only [AThen, ABlk, reduceIte, zF]); refine hK2 _ ?_
      refine awp_seq' fun K3 hK3 => ?_
      refine awp_block ?_
      have hrk := hrr k (by omega)
      refine awp_seq' fun K hK => ?_
      refine awp_region tyOk tyPos [] rfl ?_
      all_goals simp only [push_cast, ↓brB_true, ↓brB_false, ↓reduceIte, zA, zB, zC, zD, zE, zF, zG, zH, zI, reduceCtorEq]
      all_goals repeat' (first | (apply brB_mk <;> (intro hg; (try simp only [push_cast] at hg))) | apply And.intro | (intro hg; (try simp only [push_cast] at hg)))
      all_goals first | exact gA | (exact getE_dII (by simp only [push_cast]; omega)) | (exact getE_dII (by omega)) | skip
      all_goals first | (refine hK _ ?_; clear hK K) | (simp only [push_cast]; done)
      refine awp_seq' fun K4 hK4 => ?_
      refine awp_seq' fun K hK => ?_
      refine awp_region tyOk tyPos [] rfl ?_
      all_goals refine aops_cut 7 fun K9 hK9 => ?_
      all_goals simp only [push_cast, ↓brB_true, ↓brB_false, ↓reduceIte, zA, zB, zC, zD, zE, zF, zG, zH, zI, reduceCtorEq]
      all_goals repeat' (first | (apply brB_mk <;> (intro hg; (try simp only [push_cast] at hg))) | (refine ⟨_, Contains_fn (gp ps (gi r k).toNat).ask v (hga _), ?_⟩; simp only [push_cast, ↓brB_true, ↓brB_false, ↓reduceIte, zA, zB, zC, zD, zE, zF, zG, zH, zI, reduceCtorEq]) | apply And.intro | (intro hg; (try simp only [push_cast] at hg)))
      all_goals first | exact gA | (exact getE_dII (by simp only [push_cast]; omega)) | (exact getE_dII (by omega)) | skip
      all_goals first | (refine hK9 _ ?_; clear hK9 K9) | (simp only [push_cast]; done)
      all_goals simp only [push_cast, ↓brB_true, ↓brB_false, ↓reduceIte, zA, zB, zC, zD, zE, zF, zG, zH, zI, reduceCtorEq]
      all_goals repeat' (first | (apply brB_mk <;> (intro hg; (try simp only [push_cast] at hg))) | (refine ⟨_, Contains_fn (gp ps (gi r k).toNat).ask v (hga _), ?_⟩; simp only [push_cast, ↓brB_true, ↓brB_false, ↓reduceIte, zA, zB, zC, zD, zE, zF, zG, zH, zI, reduceCtorEq]) | apply And.intro | (intro hg; (try simp only [push_cast] at hg)))
      all_goals first | exact gA | (exact getE_dII (by simp only [push_cast]; omega)) | (exact getE_dII (by omega)) | skip
      all_goals first | (refine hK _ ?_; clear hK K) | (simp only [push_cast]; done)
      refine awp_cond rfl (fun hc => ?_) (fun hc => ?_) <;> (try simp only [push_cast] at hc)
      ·
        refine awp_region tyOk tyPos [] rfl ?_
        all_goals simp only [push_cast, ↓brB_true, ↓brB_false, ↓reduceIte, zA, zB, zC, zD, zE, zF, zG, zH, zI, reduceCtorEq]
        all_goals repeat' (first | (apply brB_mk <;> (intro hg; (try simp only [push_cast] at hg))) | apply And.intro | (intro hg; (try simp only [push_cast] at hg)))
        all_goals first | exact gA | (exact getE_dII (by simp only [push_cast]; omega)) | (exact getE_dII (by omega)) | skip
        (try simp only [AThen, ABlk, reduceIte, zF]); refine hK4 _ ?_
        refine awp_seq' fun K hK => ?_
        refine awp_region tyOk tyPos [] rfl ?_
        all_goals refine aops_cut 7 fun K9 hK9 => ?_
        all_goals simp only [push_cast, ↓brB_true, ↓brB_false, ↓reduceIte, zA, zB, zC, zD, zE, zF, zG, zH, zI, reduceCtorEq]
        all_goals repeat' (first | (apply brB_mk <;> (intro hg; (try simp only [push_cast] at hg))) | (refine ⟨_, Contains_fn (gp ps (gi r k).toNat).give v (hgg _), ?_⟩; simp only [push_cast, ↓brB_true, ↓brB_false, ↓reduceIte, zA, zB, zC, zD, zE, zF, zG, zH, zI, reduceCtorEq]) | apply And.intro | (intro hg; (try simp only [push_cast] at hg)))
        all_goals first | exact gA | (exact getE_dII (by simp only [push_cast]; omega)) | (exact getE_dII (by omega)) | skip
        all_goals first | (refine hK9 _ ?_; clear hK9 K9) | (simp only [push_cast]; done)
        all_goals simp only [push_cast, ↓brB_true, ↓brB_false, ↓reduceIte, zA, zB, zC, zD, zE, zF, zG, zH, zI, reduceCtorEq]
        all_goals repeat' (first | (apply brB_mk <;> (intro hg; (try simp only [push_cast] at hg))) | (refine ⟨_, Contains_fn (gp ps (gi r k).toNat).give v (hgg _), ?_⟩; simp only [push_cast, ↓brB_true, ↓brB_false, ↓reduceIte, zA, zB, zC, zD, zE, zF, zG, zH, zI, reduceCtorEq]) | apply And.intro | (intro hg; (try simp only [push_cast] at hg)))
        all_goals first | exact gA | (exact getE_dII (by simp only [push_cast]; omega)) | (exact getE_dII (by omega)) | skip
        all_goals first | (refine hK _ ?_; clear hK K) | (simp only [push_cast]; done)
        refine awp_cond rfl (fun hc => ?_) (fun hc => ?_) <;> (try simp only [push_cast] at hc)
        ·
          refine awp_region tyOk tyPos [] rfl ?_
          all_goals simp only [push_cast, ↓brB_true, ↓brB_false, ↓reduceIte, zA, zB, zC, zD, zE, zF, zG, zH, zI, reduceCtorEq]
          all_goals repeat' (first | (apply brB_mk <;> (intro hg; (try simp only [push_cast] at hg))) | apply And.intro | (intro hg; (try simp only [push_cast] at hg)))
          all_goals first | exact gA | (exact getE_dII (by simp only [push_cast]; omega)) | (exact getE_dII (by omega)) | skip
          (try simp only [AThen, ABlk, reduceIte, zF]); refine hK3 _ ?_
          refine awp_region tyOk tyPos [] rfl ?_
          all_goals simp only [push_cast, ↓brB_true, ↓brB_false, ↓reduceIte, zA, zB, zC, zD, zE, zF, zG, zH, zI, reduceCtorEq]
          all_goals repeat' (first | (apply brB_mk <;> (intro hg; (try simp only [push_cast] at hg))) | apply And.intro | (intro hg; (try simp only [push_cast] at hg)))
          all_goals first | exact gA | (exact getE_dII (by simp only [push_cast]; omega)) | (exact getE_dII (by omega)) | skip
          refine hL0 _ ⟨k + 1, by omega, by omega, ?_⟩
          rw [akI_yes (by unfold akB; with_reducible assumption), gvI_yes (by unfold gvB; with_reducible assumption)]
          refine cov_of rfl ?_ ?_ ?_ <;> simp only [covS, covL, push_cast, ↓brB_true, ↓brB_false, ↓reduceIte, zA, zB, zC, zD, zE, zF, zG, zH, zI, reduceCtorEq]
        ·
          refine awp_skip ?_
          (try simp only [AThen, ABlk, reduceIte, zF]); refine hK3 _ ?_
          refine awp_region tyOk tyPos [] rfl ?_
          all_goals simp only [push_cast, ↓brB_true, ↓brB_false, ↓reduceIte, zA, zB, zC, zD, zE, zF, zG, zH, zI, reduceCtorEq]
          all_goals repeat' (first | (apply brB_mk <;> (intro hg; (try simp only [push_cast] at hg))) | apply And.intro | (intro hg; (try simp only [push_cast] at hg)))
          all_goals first | exact gA | (exact getE_dII (by simp only [push_cast]; omega)) | (exact getE_dII (by omega)) | skip
          refine hL0 _ ⟨k + 1, by omega, by omega, ?_⟩
          rw [akI_yes (by unfold akB; with_reducible assumption), gvI_no (by unfold gvB; with_reducible assumption)]
          refine cov_of rfl ?_ ?_ ?_ <;> simp only [covS, covL, push_cast, ↓brB_true, ↓brB_false, ↓reduceIte, zA, zB, zC, zD, zE, zF, zG, zH, zI, reduceCtorEq]
      ·
        refine awp_skip ?_
        (try simp only [AThen, ABlk, reduceIte, zF]); refine hK4 _ ?_
        refine awp_seq' fun K hK => ?_
        refine awp_region tyOk tyPos [] rfl ?_
        all_goals refine aops_cut 7 fun K9 hK9 => ?_
        all_goals simp only [push_cast, ↓brB_true, ↓brB_false, ↓reduceIte, zA, zB, zC, zD, zE, zF, zG, zH, zI, reduceCtorEq]
        all_goals repeat' (first | (apply brB_mk <;> (intro hg; (try simp only [push_cast] at hg))) | (refine ⟨_, Contains_fn (gp ps (gi r k).toNat).give v (hgg _), ?_⟩; simp only [push_cast, ↓brB_true, ↓brB_false, ↓reduceIte, zA, zB, zC, zD, zE, zF, zG, zH, zI, reduceCtorEq]) | apply And.intro | (intro hg; (try simp only [push_cast] at hg)))
        all_goals first | exact gA | (exact getE_dII (by simp only [push_cast]; omega)) | (exact getE_dII (by omega)) | skip
        all_goals first | (refine hK9 _ ?_; clear hK9 K9) | (simp only [push_cast]; done)
        all_goals simp only [push_cast, ↓brB_true, ↓brB_false, ↓reduceIte, zA, zB, zC, zD, zE, zF, zG, zH, zI, reduceCtorEq]
        all_goals repeat' (first | (apply brB_mk <;> (intro hg; (try simp only [push_cast] at hg))) | (refine ⟨_, Contains_fn (gp ps (gi r k).toNat).give v (hgg _), ?_⟩; simp only [push_cast, ↓brB_true, ↓brB_false, ↓reduceIte, zA, zB, zC, zD, zE, zF, zG, zH, zI, reduceCtorEq]) | apply And.intro | (intro hg; (try simp only [push_cast] at hg)))
        all_goals first | exact gA | (exact getE_dII (by simp only [push_cast]; omega)) | (exact getE_dII (by omega)) | skip
        all_goals first | (refine hK _ ?_; clear hK K) | (simp only [push_cast]; done)
        refine awp_cond rfl (fun hc => ?_) (fun hc => ?_) <;> (try simp only [push_cast] at hc)
        ·
          refine awp_region tyOk tyPos [] rfl ?_
          all_goals simp only [push_cast, ↓brB_true, ↓brB_false, ↓reduceIte, zA, zB, zC, zD, zE, zF, zG, zH, zI, reduceCtorEq]
          all_goals repeat' (first | (apply brB_mk <;> (intro hg; (try simp only [push_cast] at hg))) | apply And.intro | (intro hg; (try simp only [push_cast] at hg)))
          all_goals first | exact gA | (exact getE_dII (by simp only [push_cast]; omega)) | (exact getE_dII (by omega)) | skip
          (try simp only [AThen, ABlk, reduceIte, zF]); refine hK3 _ ?_
          refine awp_region tyOk tyPos [] rfl ?_
          all_goals simp only [push_cast, ↓brB_true, ↓brB_false, ↓reduceIte, zA, zB, zC, zD, zE, zF, zG, zH, zI, reduceCtorEq]
          all_goals repeat' (first | (apply brB_mk <;> (intro hg; (try simp only [push_cast] at hg))) | apply And.intro | (intro hg; (try simp only [push_cast] at hg)))
          all_goals first | exact gA | (exact getE_dII (by simp only [push_cast]; omega)) | (exact getE_dII (by omega)) | skip
          refine hL0 _ ⟨k + 1, by omega, by omega, ?_⟩
          rw [akI_no (by unfold akB; with_reducible assumption), gvI_yes (by unfold gvB; with_reducible assumption)]
          refine cov_of rfl ?_ ?_ ?_ <;> simp only [covS, covL, push_cast, ↓brB_true, ↓brB_false, ↓reduceIte, zA, zB, zC, zD, zE, zF, zG, zH, zI, reduceCtorEq]
        ·
          refine awp_skip ?_
          (try simp only [AThen, ABlk, reduceIte, zF]); refine hK3 _ ?_
          refine awp_region tyOk tyPos [] rfl ?_
          all_goals simp only [push_cast, ↓brB_true, ↓brB_false, ↓reduceIte, zA, zB, zC, zD, zE, zF, zG, zH, zI, reduceCtorEq]
          all_goals repeat' (first | (apply brB_mk <;> (intro hg; (try simp only [push_cast] at hg))) | apply And.intro | (intro hg; (try simp only [push_cast] at hg)))
          all_goals first | exact gA | (exact getE_dII (by simp only [push_cast]; omega)) | (exact getE_dII (by omega)) | skip
          refine hL0 _ ⟨k + 1, by omega, by omega, ?_⟩
          rw [akI_no (by unfold akB; with_reducible assumption), gvI_no (by unfold gvB; with_reducible assumption)]
          refine cov_of rfl ?_ ?_ ?_ <;> simp only [covS, covL, push_cast, ↓brB_true, ↓brB_false, ↓reduceIte, zA, zB, zC, zD, zE, zF, zG, zH, zI, reduceCtorEq]
    ·
      refine awp_exit ?_
      have hkk : k = r.length := by omega
      subst hkk
      have har9 := har r.length
      have hgr9 := hgr r.length
      (try simp only [AThen, ABlk, reduceIte, zF]); refine hK1 _ ?_
      refine awp_seq' fun K5 hK5 => ?_
      refine awp_block ?_
      refine awp_seq' fun K hK => ?_
      refine awp_regionN false tyOk tyPos ?_ rfl ?_
      · kernel_rfl
      all_goals simp only [push_cast, ↓brB_true, ↓brB_false, ↓reduceIte, zA, zB, zC, zD, zE, zF, zG, zH, zI, reduceCtorEq]
      all_goals repeat' (first | (apply brB_mk <;> (intro hg; (try simp only [push_cast] at hg))) | apply And.intro | (intro hg; (try simp only [push_cast] at hg)))
      all_goals first | exact gA | (exact getE_dII (by simp only [push_cast]; omega)) | (exact getE_dII (by omega)) | skip
      all_goals first | (refine hK _ ?_; clear hK K) | (simp only [push_cast]; done)
      all_goals refine awp_cond rfl (fun hc => ?_) (fun hc => ?_)
      all_goals (first | (cases hc; done) | skip)
      all_goals (try simp only [push_cast] at hc)
      all_goals first
        | (
            refine awp_seq' fun K hK => ?_
            refine awp_region tyOk tyPos [] rfl ?_
            all_goals simp only [push_cast, ↓brB_true, ↓brB_false, ↓reduceIte, zA, zB, zC, zD, zE, zF, zG, zH, zI, reduceCtorEq]
            all_goals repeat' (first | (apply brB_mk <;> (intro hg; (try simp only [push_cast] at hg))) | apply And.intro | (intro hg; (try simp only [push_cast] at hg)))
            all_goals first | exact gA | (exact getE_dII (by simp only [push_cast]; omega)) | (exact getE_dII (by omega)) | skip
            all_goals first | (refine hK _ ?_; clear hK K) | (simp only [push_cast]; done)
            all_goals refine awp_cond rfl (fun hc => ?_) (fun hc => ?_)
            all_goals (first | (cases hc; done) | skip)
            all_goals (try simp only [push_cast] at hc)
            all_goals (first | (exfalso; omega) | skip)
            all_goals first
              | (
                  refine awp_skip ?_
                  (try simp only [AThen, ABlk, reduceIte, zF]); refine hK5 _ ?_
                  refine awp_seq' fun K hK => ?_
                  refine awp_region tyOk tyPos [] rfl ?_
                  all_goals simp only [push_cast, ↓brB_true, ↓brB_false, ↓reduceIte, zA, zB, zC, zD, zE, zF, zG, zH, zI, reduceCtorEq]
                  all_goals repeat' (first | (apply brB_mk <;> (intro hg; (try simp only [push_cast] at hg))) | apply And.intro | (intro hg; (try simp only [push_cast] at hg)))
                  all_goals first | exact gA | (exact getE_dII (by simp only [push_cast]; omega)) | (exact getE_dII (by omega)) | skip
                  all_goals first | (refine hK _ ?_; clear hK K) | (simp only [push_cast]; done)
                  refine awp_ret ?_
                  (try simp only [AThen, ABlk])
                  refine ⟨Or.inl rfl, ?_⟩
                  simp only [RetOk, push_cast, ↓brB_true, ↓brB_false, ↓reduceIte, zA, zB, zC, zD, zE, zF, zG, zH, zI, reduceCtorEq]
                  all_goals (unfold prV; split <;> (try split) <;> omega)
                  done)
              | (
                  refine awp_seq' fun K hK => ?_
                  refine awp_region tyOk tyPos [] rfl ?_
                  all_goals simp only [push_cast, ↓brB_true, ↓brB_false, ↓reduceIte, zA, zB, zC, zD, zE, zF, zG, zH, zI, reduceCtorEq]
                  all_goals repeat' (first | (apply brB_mk <;> (intro hg; (try simp only [push_cast] at hg))) | apply And.intro | (intro hg; (try simp only [push_cast] at hg)))
                  all_goals first | exact gA | (exact getE_dII (by simp only [push_cast]; omega)) | (exact getE_dII (by omega)) | skip
                  all_goals first | (refine hK _ ?_; clear hK K) | (simp only [push_cast]; done)
                  refine awp_ret ?_
                  (try simp only [AThen, ABlk])
                  refine ⟨Or.inl rfl, ?_⟩
                  simp only [RetOk, push_cast, ↓brB_true, ↓brB_false, ↓reduceIte, zA, zB, zC, zD, zE, zF, zG, zH, zI, reduceCtorEq]
                  all_goals (unfold prV; split <;> (try split) <;> omega)
                  done)
            done)
        | (
            refine awp_seq' fun K hK => ?_
            refine awp_region tyOk tyPos [] rfl ?_
            all_goals simp only [push_cast, ↓brB_true, ↓brB_false, ↓reduceIte, zA, zB, zC, zD, zE, zF, zG, zH, zI, reduceCtorEq]
            all_goals repeat' (first | (apply brB_mk <;> (intro hg; (try simp only [push_cast] at hg))) | apply And.intro | (intro hg; (try simp only [push_cast] at hg)))
            all_goals first | exact gA | (exact getE_dII (by simp only [push_cast]; omega)) | (exact getE_dII (by omega)) | skip
            all_goals first | (refine hK _ ?_; clear hK K) | (simp only [push_cast]; done)
            refine awp_ret ?_
            (try simp only [AThen, ABlk])
            refine ⟨Or.inl rfl, ?_⟩
            simp only [RetOk, push_cast, ↓brB_true, ↓brB_false, ↓reduceIte, zA, zB, zC, zD, zE, zF, zG, zH, zI, reduceCtorEq]
            all_goals (unfold prV; split <;> (try split) <;> omega)
            done)
set_option maxRecDepth 20000 in
set_option maxHeartbeats 4000000 in
theorem l17Prio_fn (ps : List Pr) (ha : PLn 1048576 ps) (r : List Int) (hr : r.length ≤ 1048576) (hrr : ∀ i, i < r.length → 0 ≤ gi r i ∧ gi r i < (ps.length : Int)) (v : Int) : Fn Try.prog tyT 96 [.c (.lst 66 (dII (ilv ps))), .c (DI r), .c (.int .i64 v)] [.c (.int .i64 (prV (akI ps r v r.length) (gvI ps r v r.length)))] := by
  have hl := ha.1
  have hg := fun k => gp_le ha k
  have hga : ∀ k, (gp ps k).ask.length ≤ 1048576 := fun k => (hg k).ask
  have hgg : ∀ k, (gp ps k).give.length ≤ 1048576 := fun k => (hg k).give
  have hli := len_ilv ps
  have har := akI_rg ps r v
  have hgr := gvI_rg ps r v
  refine Fn_of (fn := Try.f96) (ts := [6]) Try.func96 (by kernel_rfl) rfl rfl (by rw [Try.ntmps96]; exact Nat.le_of_ble_eq_true rfl) rfl (by simp only [szA, List.mem_cons, List.not_mem_nil, or_false, forall_eq_or_imp, forall_eq, VT.cells, szL]; try decide) ?_
  rw [Try.ntmps96]
  simp only [push_cast, ↓brB_true, ↓brB_false, ↓reduceIte, zA, zB, zC, zD, zE, zF, zG, zH, zI, reduceCtorEq]
  refine awp_seq' fun K hK => ?_
  refine awp_region tyOk tyPos [] rfl ?_
  all_goals simp only [push_cast, ↓brB_true, ↓brB_false, ↓reduceIte, zA, zB, zC, zD, zE, zF, zG, zH, zI, reduceCtorEq]
  all_goals repeat' (first | (apply brB_mk <;> (intro hg; (try simp only [push_cast] at hg))) | apply And.intro | (intro hg; (try simp only [push_cast] at hg)))
  all_goals first | exact gA | (exact getE_dII (by simp only [push_cast]; omega)) | (exact getE_dII (by omega)) | skip
  all_goals first | (refine hK _ ?_; clear hK K) | (simp only [push_cast]; done)
  refine awp_seq' fun K hK => ?_
  refine awp_region tyOk tyPos [] rfl ?_
  all_goals simp only [push_cast, ↓brB_true, ↓brB_false, ↓reduceIte, zA, zB, zC, zD, zE, zF, zG, zH, zI, reduceCtorEq]
  all_goals repeat' (first | (apply brB_mk <;> (intro hg; (try simp only [push_cast] at hg))) | apply And.intro | (intro hg; (try simp only [push_cast] at hg)))
  all_goals first | exact gA | (exact getE_dII (by simp only [push_cast]; omega)) | (exact getE_dII (by omega)) | skip
  all_goals first | (refine hK _ ?_; clear hK K) | (simp only [push_cast]; done)
  refine awp_seq' fun K hK => ?_
  refine awp_region tyOk tyPos [] rfl ?_
  all_goals simp only [push_cast, ↓brB_true, ↓brB_false, ↓reduceIte, zA, zB, zC, zD, zE, zF, zG, zH, zI, reduceCtorEq]
  all_goals repeat' (first | (apply brB_mk <;> (intro hg; (try simp only [push_cast] at hg))) | apply And.intro | (intro hg; (try simp only [push_cast] at hg)))
  all_goals first | exact gA | (exact getE_dII (by simp only [push_cast]; omega)) | (exact getE_dII (by omega)) | skip
  all_goals first | (refine hK _ ?_; clear hK K) | (simp only [push_cast]; done)
  refine awp_seq' fun K1 hK1 => ?_
  refine awp_seq' fun K hK => ?_
  refine awp_region tyOk tyPos [] rfl ?_
  all_goals simp only [push_cast, ↓brB_true, ↓brB_false, ↓reduceIte, zA, zB, zC, zD, zE, zF, zG, zH, zI, reduceCtorEq]
  all_goals repeat' (first | (apply brB_mk <;> (intro hg; (try simp only [push_cast] at hg))) | apply And.intro | (intro hg; (try simp only [push_cast] at hg)))
  all_goals first | exact gA | (exact getE_dII (by simp only [push_cast]; omega)) | (exact getE_dII (by omega)) | skip
  all_goals first | (refine hK _ ?_; clear hK K) | (simp only [push_cast]; done)
  refine awp_block ?_
  refine awp_loopU [7,8,9,10,11,12,13,14,15,16,17,18,19,20,21,22,23,24,25,26,27,28,29,30,31,32,33,34,35,36,37] [] (fun (k : Nat) => [(9, .int .i64 k), (7, .int .i64 (akI ps r v k)), (8, .int .i64 (gvI ps r v k))]) (fun k => []) (fun k => []) (fun k => k ≤ r.length) (fun k => r.length - k) 0 ?_ (by omega) ?_
  ·
    rw [show akI ps r v 0 = -1 from rfl, show gvI ps r v 0 = -1 from rfl]
    refine cov_of rfl ?_ ?_ ?_ <;> simp only [covS, covL, push_cast, ↓brB_true, ↓brB_false, ↓reduceIte, zA, zB, zC, zD, zE, zF, zG, zH, zI, reduceCtorEq]
  · rintro k hk KL0 hL0
    simp only [push_cast, ↓brB_true, ↓brB_false, ↓reduceIte, zA, zB, zC, zD, zE, zF, zG, zH, zI, reduceCtorEq]
    refine awp_seq' fun K2 hK2 => ?_
    refine awp_seq' fun K hK => ?_
    refine awp_region tyOk tyPos [] rfl ?_
    all_goals simp only [push_cast, ↓brB_true, ↓brB_false, ↓reduceIte, zA, zB, zC, zD, zE, zF, zG, zH, zI, reduceCtorEq]
    all_goals repeat' (first | (apply brB_mk <;> (intro hg; (try simp only [push_cast] at hg))) | apply And.intro | (intro hg; (try simp only [push_cast] at hg)))
    all_goals first | exact gA | (exact getE_dII (by simp only [push_cast]; omega)) | (exact getE_dII (by omega)) | skip
    all_goals first | (refine hK _ ?_; clear hK K) | (simp only [push_cast]; done)
    refine awp_cond rfl (fun hc => ?_) (fun hc => ?_) <;> (try simp only [push_cast] at hc)
    ·
      refine awp_skip ?_
      (try simp only [AThen, ABlk, reduceIte, zF]); refine hK2 _ ?_
      refine awp_seq' fun K3 hK3 => ?_
      refine awp_block ?_
      refine awp_seq' fun K4 hK4 => ?_
      have hrk := hrr k (by omega)
      refine awp_seq' fun K hK => ?_
      refine awp_region tyOk tyPos [] rfl ?_
      all_goals refine aops_cut 10 fun K9 hK9 => ?_
      all_goals simp only [push_cast, ↓brB_true, ↓brB_false, ↓reduceIte, zA, zB, zC, zD, zE, zF, zG, zH, zI, reduceCtorEq]
      all_goals repeat' (first | (apply brB_mk <;> (intro hg; (try simp only [push_cast] at hg))) | (refine ⟨_, l16Has_fn (gp ps (gi r k).toNat).ask v (hga _), ?_⟩; simp only [push_cast, ↓brB_true, ↓brB_false, ↓reduceIte, zA, zB, zC, zD, zE, zF, zG, zH, zI, reduceCtorEq]) | apply And.intro | (intro hg; (try simp only [push_cast] at hg)))
      all_goals first | exact gA | (exact getE_dII (by simp only [push_cast]; omega)) | (exact getE_dII (by omega)) | skip
      all_goals first | (refine hK9 _ ?_; clear hK9 K9) | (simp only [push_cast]; done)
      all_goals simp only [push_cast, ↓brB_true, ↓brB_false, ↓reduceIte, zA, zB, zC, zD, zE, zF, zG, zH, zI, reduceCtorEq]
      all_goals repeat' (first | (apply brB_mk <;> (intro hg; (try simp only [push_cast] at hg))) | (refine ⟨_, l16Has_fn (gp ps (gi r k).toNat).ask v (hga _), ?_⟩; simp only [push_cast, ↓brB_true, ↓brB_false, ↓reduceIte, zA, zB, zC, zD, zE, zF, zG, zH, zI, reduceCtorEq]) | apply And.intro | (intro hg; (try simp only [push_cast] at hg)))
      all_goals first | exact gA | (exact getE_dII (by simp only [push_cast]; omega)) | (exact getE_dII (by omega)) | skip
      all_goals first | (refine hK _ ?_; clear hK K) | (simp only [push_cast]; done)
      refine awp_cond rfl (fun hc => ?_) (fun hc => ?_) <;> (try simp only [push_cast] at hc)
      ·
        refine awp_region tyOk tyPos [] rfl ?_
        all_goals simp only [push_cast, ↓brB_true, ↓brB_false, ↓reduceIte, zA, zB, zC, zD, zE, zF, zG, zH, zI, reduceCtorEq]
        all_goals repeat' (first | (apply brB_mk <;> (intro hg; (try simp only [push_cast] at hg))) | apply And.intro | (intro hg; (try simp only [push_cast] at hg)))
        all_goals first | exact gA | (exact getE_dII (by simp only [push_cast]; omega)) | (exact getE_dII (by omega)) | skip
        (try simp only [AThen, ABlk, reduceIte, zF]); refine hK4 _ ?_
        refine awp_seq' fun K hK => ?_
        refine awp_region tyOk tyPos [] rfl ?_
        all_goals refine aops_cut 10 fun K9 hK9 => ?_
        all_goals simp only [push_cast, ↓brB_true, ↓brB_false, ↓reduceIte, zA, zB, zC, zD, zE, zF, zG, zH, zI, reduceCtorEq]
        all_goals repeat' (first | (apply brB_mk <;> (intro hg; (try simp only [push_cast] at hg))) | (refine ⟨_, l16Has_fn (gp ps (gi r k).toNat).give v (hgg _), ?_⟩; simp only [push_cast, ↓brB_true, ↓brB_false, ↓reduceIte, zA, zB, zC, zD, zE, zF, zG, zH, zI, reduceCtorEq]) | apply And.intro | (intro hg; (try simp only [push_cast] at hg)))
        all_goals first | exact gA | (exact getE_dII (by simp only [push_cast]; omega)) | (exact getE_dII (by omega)) | skip
        all_goals first | (refine hK9 _ ?_; clear hK9 K9) | (simp only [push_cast]; done)
        all_goals simp only [push_cast, ↓brB_true, ↓brB_false, ↓reduceIte, zA, zB, zC, zD, zE, zF, zG, zH, zI, reduceCtorEq]
        all_goals repeat' (first | (apply brB_mk <;> (intro hg; (try simp only [push_cast] at hg))) | (refine ⟨_, l16Has_fn (gp ps (gi r k).toNat).give v (hgg _), ?_⟩; simp only [push_cast, ↓brB_true, ↓brB_false, ↓reduceIte, zA, zB, zC, zD, zE, zF, zG, zH, zI, reduceCtorEq]) | apply And.intro | (intro hg; (try simp only [push_cast] at hg)))
        all_goals first | exact gA | (exact getE_dII (by simp only [push_cast]; omega)) | (exact getE_dII (by omega)) | skip
        all_goals first | (refine hK _ ?_; clear hK K) | (simp only [push_cast]; done)
        refine awp_cond rfl (fun hc => ?_) (fun hc => ?_) <;> (try simp only [push_cast] at hc)
        ·
          refine awp_region tyOk tyPos [] rfl ?_
          all_goals simp only [push_cast, ↓brB_true, ↓brB_false, ↓reduceIte, zA, zB, zC, zD, zE, zF, zG, zH, zI, reduceCtorEq]
          all_goals repeat' (first | (apply brB_mk <;> (intro hg; (try simp only [push_cast] at hg))) | apply And.intro | (intro hg; (try simp only [push_cast] at hg)))
          all_goals first | exact gA | (exact getE_dII (by simp only [push_cast]; omega)) | (exact getE_dII (by omega)) | skip
          (try simp only [AThen, ABlk, reduceIte, zF]); refine hK3 _ ?_
          refine awp_region tyOk tyPos [] rfl ?_
          all_goals simp only [push_cast, ↓brB_true, ↓brB_false, ↓reduceIte, zA, zB, zC, zD, zE, zF, zG, zH, zI, reduceCtorEq]
          all_goals repeat' (first | (apply brB_mk <;> (intro hg; (try simp only [push_cast] at hg))) | apply And.intro | (intro hg; (try simp only [push_cast] at hg)))
          all_goals first | exact gA | (exact getE_dII (by simp only [push_cast]; omega)) | (exact getE_dII (by omega)) | skip
          refine hL0 _ ⟨k + 1, by omega, by omega, ?_⟩
          rw [akI_yes (by unfold akB; with_reducible assumption), gvI_yes (by unfold gvB; with_reducible assumption)]
          refine cov_of rfl ?_ ?_ ?_ <;> simp only [covS, covL, push_cast, ↓brB_true, ↓brB_false, ↓reduceIte, zA, zB, zC, zD, zE, zF, zG, zH, zI, reduceCtorEq]
        ·
          refine awp_skip ?_
          (try simp only [AThen, ABlk, reduceIte, zF]); refine hK3 _ ?_
          refine awp_region tyOk tyPos [] rfl ?_
          all_goals simp only [push_cast, ↓brB_true, ↓brB_false, ↓reduceIte, zA, zB, zC, zD, zE, zF, zG, zH, zI, reduceCtorEq]
          all_goals repeat' (first | (apply brB_mk <;> (intro hg; (try simp only [push_cast] at hg))) | apply And.intro | (intro hg; (try simp only [push_cast] at hg)))
          all_goals first | exact gA | (exact getE_dII (by simp only [push_cast]; omega)) | (exact getE_dII (by omega)) | skip
          refine hL0 _ ⟨k + 1, by omega, by omega, ?_⟩
          rw [akI_yes (by unfold akB; with_reducible assumption), gvI_no (by unfold gvB; with_reducible assumption)]
          refine cov_of rfl ?_ ?_ ?_ <;> simp only [covS, covL, push_cast, ↓brB_true, ↓brB_false, ↓reduceIte, zA, zB, zC, zD, zE, zF, zG, zH, zI, reduceCtorEq]
      ·
        refine awp_skip ?_
        (try simp only [AThen, ABlk, reduceIte, zF]); refine hK4 _ ?_
        refine awp_seq' fun K hK => ?_
        refine awp_region tyOk tyPos [] rfl ?_
        all_goals refine aops_cut 10 fun K9 hK9 => ?_
        all_goals simp only [push_cast, ↓brB_true, ↓brB_false, ↓reduceIte, zA, zB, zC, zD, zE, zF, zG, zH, zI, reduceCtorEq]
        all_goals repeat' (first | (apply brB_mk <;> (intro hg; (try simp only [push_cast] at hg))) | (refine ⟨_, l16Has_fn (gp ps (gi r k).toNat).give v (hgg _), ?_⟩; simp only [push_cast, ↓brB_true, ↓brB_false, ↓reduceIte, zA, zB, zC, zD, zE, zF, zG, zH, zI, reduceCtorEq]) | apply And.intro | (intro hg; (try simp only [push_cast] at hg)))
        all_goals first | exact gA | (exact getE_dII (by simp only [push_cast]; omega)) | (exact getE_dII (by omega)) | skip
        all_goals first | (refine hK9 _ ?_; clear hK9 K9) | (simp only [push_cast]; done)
        all_goals simp only [push_cast, ↓brB_true, ↓brB_false, ↓reduceIte, zA, zB, zC, zD, zE, zF, zG, zH, zI, reduceCtorEq]
        all_goals repeat' (first | (apply brB_mk <;> (intro hg; (try simp only [push_cast] at hg))) | (refine ⟨_, l16Has_fn (gp ps (gi r k).toNat).give v (hgg _), ?_⟩; simp only [push_cast, ↓brB_true, ↓brB_false, ↓reduceIte, zA, zB, zC, zD, zE, zF, zG, zH, zI, reduceCtorEq]) | apply And.intro | (intro hg; (try simp only [push_cast] at hg)))
        all_goals first | exact gA | (exact getE_dII (by simp only [push_cast]; omega)) | (exact getE_dII (by omega)) | skip
        all_goals first | (refine hK _ ?_; clear hK K) | (simp only [push_cast]; done)
        refine awp_cond rfl (fun hc => ?_) (fun hc => ?_) <;> (try simp only [push_cast] at hc)
        ·
          refine awp_region tyOk tyPos [] rfl ?_
          all_goals simp only [push_cast, ↓brB_true, ↓brB_false, ↓reduceIte, zA, zB, zC, zD, zE, zF, zG, zH, zI, reduceCtorEq]
          all_goals repeat' (first | (apply brB_mk <;> (intro hg; (try simp only [push_cast] at hg))) | apply And.intro | (intro hg; (try simp only [push_cast] at hg)))
          all_goals first | exact gA | (exact getE_dII (by simp only [push_cast]; omega)) | (exact getE_dII (by omega)) | skip
          (try simp only [AThen, ABlk, reduceIte, zF]); refine hK3 _ ?_
          refine awp_region tyOk tyPos [] rfl ?_
          all_goals simp only [push_cast, ↓brB_true, ↓brB_false, ↓reduceIte, zA, zB, zC, zD, zE, zF, zG, zH, zI, reduceCtorEq]
          all_goals repeat' (first | (apply brB_mk <;> (intro hg; (try simp only [push_cast] at hg))) | apply And.intro | (intro hg; (try simp only [push_cast] at hg)))
          all_goals first | exact gA | (exact getE_dII (by simp only [push_cast]; omega)) | (exact getE_dII (by omega)) | skip
          refine hL0 _ ⟨k + 1, by omega, by omega, ?_⟩
          rw [akI_no (by unfold akB; with_reducible assumption), gvI_yes (by unfold gvB; with_reducible assumption)]
          refine cov_of rfl ?_ ?_ ?_ <;> simp only [covS, covL, push_cast, ↓brB_true, ↓brB_false, ↓reduceIte, zA, zB, zC, zD, zE, zF, zG, zH, zI, reduceCtorEq]
        ·
          refine awp_skip ?_
          (try simp only [AThen, ABlk, reduceIte, zF]); refine hK3 _ ?_
          refine awp_region tyOk tyPos [] rfl ?_
          all_goals simp only [push_cast, ↓brB_true, ↓brB_false, ↓reduceIte, zA, zB, zC, zD, zE, zF, zG, zH, zI, reduceCtorEq]
          all_goals repeat' (first | (apply brB_mk <;> (intro hg; (try simp only [push_cast] at hg))) | apply And.intro | (intro hg; (try simp only [push_cast] at hg)))
          all_goals first | exact gA | (exact getE_dII (by simp only [push_cast]; omega)) | (exact getE_dII (by omega)) | skip
          refine hL0 _ ⟨k + 1, by omega, by omega, ?_⟩
          rw [akI_no (by unfold akB; with_reducible assumption), gvI_no (by unfold gvB; with_reducible assumption)]
          refine cov_of rfl ?_ ?_ ?_ <;> simp only [covS, covL, push_cast, ↓brB_true, ↓brB_false, ↓reduceIte, zA, zB, zC, zD, zE, zF, zG, zH, zI, reduceCtorEq]
    ·
      refine awp_exit ?_
      have hkk : k = r.length := by omega
      subst hkk
      have har9 := har r.length
      have hgr9 := hgr r.length
      (try simp only [AThen, ABlk, reduceIte, zF]); refine hK1 _ ?_
      refine awp_seq' fun K5 hK5 => ?_
      refine awp_block ?_
      refine awp_seq' fun K hK => ?_
      refine awp_regionN false tyOk tyPos ?_ rfl ?_
      · kernel_rfl
      all_goals simp only [push_cast, ↓brB_true, ↓brB_false, ↓reduceIte, zA, zB, zC, zD, zE, zF, zG, zH, zI, reduceCtorEq]
      all_goals repeat' (first | (apply brB_mk <;> (intro hg; (try simp only [push_cast] at hg))) | apply And.intro | (intro hg; (try simp only [push_cast] at hg)))
      all_goals first | exact gA | (exact getE_dII (by simp only [push_cast]; omega)) | (exact getE_dII (by omega)) | skip
      all_goals first | (refine hK _ ?_; clear hK K) | (simp only [push_cast]; done)
      all_goals refine awp_cond rfl (fun hc => ?_) (fun hc => ?_)
      all_goals (first | (cases hc; done) | skip)
      all_goals (try simp only [push_cast] at hc)
      all_goals first
        | (
            refine awp_seq' fun K hK => ?_
            refine awp_region tyOk tyPos [] rfl ?_
            all_goals simp only [push_cast, ↓brB_true, ↓brB_false, ↓reduceIte, zA, zB, zC, zD, zE, zF, zG, zH, zI, reduceCtorEq]
            all_goals repeat' (first | (apply brB_mk <;> (intro hg; (try simp only [push_cast] at hg))) | apply And.intro | (intro hg; (try simp only [push_cast] at hg)))
            all_goals first | exact gA | (exact getE_dII (by simp only [push_cast]; omega)) | (exact getE_dII (by omega)) | skip
            all_goals first | (refine hK _ ?_; clear hK K) | (simp only [push_cast]; done)
            all_goals refine awp_cond rfl (fun hc => ?_) (fun hc => ?_)
            all_goals (first | (cases hc; done) | skip)
            all_goals (try simp only [push_cast] at hc)
            all_goals (first | (exfalso; omega) | skip)
            all_goals first
              | (
                  refine awp_skip ?_
                  (try simp only [AThen, ABlk, reduceIte, zF]); refine hK5 _ ?_
                  refine awp_seq' fun K hK => ?_
                  refine awp_region tyOk tyPos [] rfl ?_
                  all_goals simp only [push_cast, ↓brB_true, ↓brB_false, ↓reduceIte, zA, zB, zC, zD, zE, zF, zG, zH, zI, reduceCtorEq]
                  all_goals repeat' (first | (apply brB_mk <;> (intro hg; (try simp only [push_cast] at hg))) | apply And.intro | (intro hg; (try simp only [push_cast] at hg)))
                  all_goals first | exact gA | (exact getE_dII (by simp only [push_cast]; omega)) | (exact getE_dII (by omega)) | skip
                  all_goals first | (refine hK _ ?_; clear hK K) | (simp only [push_cast]; done)
                  refine awp_ret ?_
                  (try simp only [AThen, ABlk])
                  refine ⟨Or.inl rfl, ?_⟩
                  simp only [RetOk, push_cast, ↓brB_true, ↓brB_false, ↓reduceIte, zA, zB, zC, zD, zE, zF, zG, zH, zI, reduceCtorEq]
                  all_goals (unfold prV; split <;> (try split) <;> omega)
                  done)
              | (
                  refine awp_seq' fun K hK => ?_
                  refine awp_region tyOk tyPos [] rfl ?_
                  all_goals simp only [push_cast, ↓brB_true, ↓brB_false, ↓reduceIte, zA, zB, zC, zD, zE, zF, zG, zH, zI, reduceCtorEq]
                  all_goals repeat' (first | (apply brB_mk <;> (intro hg; (try simp only [push_cast] at hg))) | apply And.intro | (intro hg; (try simp only [push_cast] at hg)))
                  all_goals first | exact gA | (exact getE_dII (by simp only [push_cast]; omega)) | (exact getE_dII (by omega)) | skip
                  all_goals first | (refine hK _ ?_; clear hK K) | (simp only [push_cast]; done)
                  refine awp_ret ?_
                  (try simp only [AThen, ABlk])
                  refine ⟨Or.inl rfl, ?_⟩
                  simp only [RetOk, push_cast, ↓brB_true, ↓brB_false, ↓reduceIte, zA, zB, zC, zD, zE, zF, zG, zH, zI, reduceCtorEq]
                  all_goals (unfold prV; split <;> (try split) <;> omega)
                  done)
            done)
        | (
            refine awp_seq' fun K hK => ?_
            refine awp_region tyOk tyPos [] rfl ?_
            all_goals simp only [push_cast, ↓brB_true, ↓brB_false, ↓reduceIte, zA, zB, zC, zD, zE, zF, zG, zH, zI, reduceCtorEq]
            all_goals repeat' (first | (apply brB_mk <;> (intro hg; (try simp only [push_cast] at hg))) | apply And.intro | (intro hg; (try simp only [push_cast] at hg)))
            all_goals first | exact gA | (exact getE_dII (by simp only [push_cast]; omega)) | (exact getE_dII (by omega)) | skip
            all_goals first | (refine hK _ ?_; clear hK K) | (simp only [push_cast]; done)
            refine awp_ret ?_
            (try simp only [AThen, ABlk])
            refine ⟨Or.inl rfl, ?_⟩
            simp only [RetOk, push_cast, ↓brB_true, ↓brB_false, ↓reduceIte, zA, zB, zC, zD, zE, zF, zG, zH, zI, reduceCtorEq]
            all_goals (unfold prV; split <;> (try split) <;> omega)
            done)
end Go.Proofs.Ytdbecmmeifdafaa
