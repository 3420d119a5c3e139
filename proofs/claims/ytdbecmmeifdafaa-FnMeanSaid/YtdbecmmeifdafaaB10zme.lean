/- the means of all vertices: the other side -/
import Derived.Test.YtdbecmmeifdafaaB9zme
import Derived.Test.YtdbecmmeifdafaaB8zme
import Derived.Test.YtdbecmmeifdafaaB4zme
namespace Go.Proofs.Ytdbecmmeifdafaa
open Nat renaming reduceMod → zA, reduceMul → zB, reduceDiv → zC, reduceAdd → zD, reduceSub → zE, reduceEqDiff → zF, reduceBEq → zG, reduceLT → zH, reduceLeDiff → zI
open Go.RowKit
set_option linter.unusedVariables false
set_option linter.unusedSimpArgs false

open MV (Gm)
theorem worst_bd {r : List Int} (h : 1 ≤ r.length) (hb : ∀ j, j < r.length → -1000 ≤ gi r j ∧ gi r j ≤ 1000) : -1000 ≤ worstI (-gi r 0) r ∧ worstI (-gi r 0) r ≤ 1000 := by
  have h0 := hb 0 (by omega)
  constructor
  · have := (worstI_iff.1 (Int.le_refl (worstI (-gi r 0) r))).1
    omega
  · refine worstI_iff.2 ⟨by omega, fun x hx => ?_⟩
    obtain ⟨j, hj, rfl⟩ := mem_gi hx
    have := hb j hj
    omega
set_option maxRecDepth 20000 in
set_option maxHeartbeats 16000000 in
theorem meanOf_fn (w : Wt) (ha : w.Ln 1048576) (hw : WMn w) : Fn Try.prog tyT 73 [.agg (dWt w)] [.c (.lst 50 (dFrs (meansL w)))] := by
  have hn1 := hw.sh.n1
  have hn8 := hw.n8
  have hcl := hw.sh.cl
  have hnl := hw.sh.nl
  have hno := ha.a.owner
  unfold LnI at hno
  have hr : ∀ v, (gl w.a.next v).length ≤ 1048576 := fun v => gl_le ha.a.next v
  have hcr : ∀ v, (gl w.cost v).length ≤ 1048576 := fun v => gl_le ha.cost v
  have hrow := hw.sh.row
  have hto := hw.sh.to
  have hc1 := hw.c1
  have hown := hw.sh.own
  have hmW := hw.mW
  have hb := nW_bd (n := w.a.owner.length) (W := mostW w) (by omega) (by omega) hmW.1 hmW.2
  obtain ⟨T, hT, hT2⟩ := steps_nat hw
  have hSz := size_fn w.a
  have hMx := fun k h => MaxM_fn (gl w.cost k) (by have := hrow k h; omega) (hcr k)
  have hMn := fun k h => Min_fn (gl w.cost k) (by have := hrow k h; omega) (hcr k) (fun j hj => hw.sh.bd k h j (by have := hrow k h; omega))
  have hm0 := hw.most
  have hb4 : (4 * w.a.owner.length * w.a.owner.length * w.a.owner.length * mostW w : Int) = T := by rw [hT]; ac_rfl
  have hb3 : (4 * w.a.owner.length * w.a.owner.length * w.a.owner.length : Int) = 4 * (w.a.owner.length * w.a.owner.length * w.a.owner.length) := by ac_rfl
  have hb2 : (4 * w.a.owner.length * w.a.owner.length : Int) = 4 * (w.a.owner.length * w.a.owner.length) := by ac_rfl
  have hb5 : (2 * w.a.owner.length * mostW w : Int) = 2 * (w.a.owner.length * mostW w) := by ac_rfl
  unfold dAr at hSz
  unfold dWt
  refine Fn_of (fn := Try.f73) (ts := [2]) Try.func73 (by kernel_rfl) rfl rfl (by rw [Try.ntmps73]; exact Nat.le_of_ble_eq_true rfl) rfl (by simp only [szA, List.mem_cons, List.not_mem_nil, or_false, forall_eq_or_imp, forall_eq, VT.cells, szL]; try decide) ?_
  rw [Try.ntmps73]
  simp only [push_cast, ↓brB_true, ↓brB_false, ↓reduceIte, zA, zB, zC, zD, zE, zF, zG, zH, zI, reduceCtorEq]
  refine awp_seq' fun K hK => ?_
  refine awp_region tyOk tyPos [] rfl ?_
  all_goals simp only [push_cast, ↓brB_true, ↓brB_false, ↓reduceIte, zA, zB, zC, zD, zE, zF, zG, zH, zI, reduceCtorEq]
  all_goals repeat' (first | (apply brB_mk <;> (intro hg; (try simp only [push_cast] at hg))) | apply And.intro | (intro hg; (try simp only [push_cast] at hg)))
  all_goals first | exact gA | (exact getE_dII (by omega)) | (rw [hb2]; omega) | (rw [hb3]; omega) | (rw [hb4]; omega) | (rw [hb5]; omega) | (rw [Int.neg_neg]; have := hwst (by omega); omega) | (have h8 := hwr (by omega); have h7 := hed0 (by omega) (by omega); have h6 := hee0 (by omega) (by omega); omega) | (have h8 := hwr (by omega); have h7 := hedp (by omega); have h6 := hed (by omega); omega) | (have h9 := hto v (by omega) i (by omega); have h8 := hwr (by omega); omega) | (have h9 := hto v (by omega) 0 (by have := hwr (by omega); omega); omega) | skip
  all_goals first | (refine hK _ ?_; clear hK K) | (simp only [push_cast]; done)
  refine awp_seq' fun K hK => ?_
  refine awp_region tyOk tyPos [] rfl ?_
  all_goals refine aops_cut 3 fun K9 hK9 => ?_
  all_goals simp only [push_cast, ↓brB_true, ↓brB_false, ↓reduceIte, zA, zB, zC, zD, zE, zF, zG, zH, zI, reduceCtorEq]
  all_goals repeat' (first | (apply brB_mk <;> (intro hg; (try simp only [push_cast] at hg))) | (refine ⟨_, hSz, ?_⟩; simp only [push_cast, ↓brB_true, ↓brB_false, ↓reduceIte, zA, zB, zC, zD, zE, zF, zG, zH, zI, reduceCtorEq]) | apply And.intro | (intro hg; (try simp only [push_cast] at hg)))
  all_goals first | exact gA | (exact getE_dII (by omega)) | (rw [hb2]; omega) | (rw [hb3]; omega) | (rw [hb4]; omega) | (rw [hb5]; omega) | (rw [Int.neg_neg]; have := hwst (by omega); omega) | (have h8 := hwr (by omega); have h7 := hed0 (by omega) (by omega); have h6 := hee0 (by omega) (by omega); omega) | (have h8 := hwr (by omega); have h7 := hedp (by omega); have h6 := hed (by omega); omega) | (have h9 := hto v (by omega) i (by omega); have h8 := hwr (by omega); omega) | (have h9 := hto v (by omega) 0 (by have := hwr (by omega); omega); omega) | skip
  all_goals first | (refine hK9 _ ?_; clear hK9 K9) | (simp only [push_cast]; done)
  all_goals simp only [push_cast, ↓brB_true, ↓brB_false, ↓reduceIte, zA, zB, zC, zD, zE, zF, zG, zH, zI, reduceCtorEq]
  all_goals repeat' (first | (apply brB_mk <;> (intro hg; (try simp only [push_cast] at hg))) | (refine ⟨_, hSz, ?_⟩; simp only [push_cast, ↓brB_true, ↓brB_false, ↓reduceIte, zA, zB, zC, zD, zE, zF, zG, zH, zI, reduceCtorEq]) | apply And.intro | (intro hg; (try simp only [push_cast] at hg)))
  all_goals first | exact gA | (exact getE_dII (by omega)) | (rw [hb2]; omega) | (rw [hb3]; omega) | (rw [hb4]; omega) | (rw [hb5]; omega) | (rw [Int.neg_neg]; have := hwst (by omega); omega) | (have h8 := hwr (by omega); have h7 := hed0 (by omega) (by omega); have h6 := hee0 (by omega) (by omega); omega) | (have h8 := hwr (by omega); have h7 := hedp (by omega); have h6 := hed (by omega); omega) | (have h9 := hto v (by omega) i (by omega); have h8 := hwr (by omega); omega) | (have h9 := hto v (by omega) 0 (by have := hwr (by omega); omega); omega) | skip
  all_goals first | (refine hK _ ?_; clear hK K) | (simp only [push_cast]; done)
  refine awp_seq' fun K hK => ?_
  refine awp_region tyOk tyPos [] rfl ?_
  all_goals simp only [push_cast, ↓brB_true, ↓brB_false, ↓reduceIte, zA, zB, zC, zD, zE, zF, zG, zH, zI, reduceCtorEq]
  all_goals repeat' (first | (apply brB_mk <;> (intro hg; (try simp only [push_cast] at hg))) | apply And.intro | (intro hg; (try simp only [push_cast] at hg)))
  all_goals first | exact gA | (exact getE_dII (by omega)) | (rw [hb2]; omega) | (rw [hb3]; omega) | (rw [hb4]; omega) | (rw [hb5]; omega) | (rw [Int.neg_neg]; have := hwst (by omega); omega) | (have h8 := hwr (by omega); have h7 := hed0 (by omega) (by omega); have h6 := hee0 (by omega) (by omega); omega) | (have h8 := hwr (by omega); have h7 := hedp (by omega); have h6 := hed (by omega); omega) | (have h9 := hto v (by omega) i (by omega); have h8 := hwr (by omega); omega) | (have h9 := hto v (by omega) 0 (by have := hwr (by omega); omega); omega) | skip
  all_goals first | (refine hK _ ?_; clear hK K) | (simp only [push_cast]; done)
  refine awp_seq' fun K1 hK1 => ?_
  refine awp_seq' fun K hK => ?_
  refine awp_region tyOk tyPos [] rfl ?_
  all_goals simp only [push_cast, ↓brB_true, ↓brB_false, ↓reduceIte, zA, zB, zC, zD, zE, zF, zG, zH, zI, reduceCtorEq]
  all_goals repeat' (first | (apply brB_mk <;> (intro hg; (try simp only [push_cast] at hg))) | apply And.intro | (intro hg; (try simp only [push_cast] at hg)))
  all_goals first | exact gA | (exact getE_dII (by omega)) | (rw [hb2]; omega) | (rw [hb3]; omega) | (rw [hb4]; omega) | (rw [hb5]; omega) | (rw [Int.neg_neg]; have := hwst (by omega); omega) | (have h8 := hwr (by omega); have h7 := hed0 (by omega) (by omega); have h6 := hee0 (by omega) (by omega); omega) | (have h8 := hwr (by omega); have h7 := hedp (by omega); have h6 := hed (by omega); omega) | (have h9 := hto v (by omega) i (by omega); have h8 := hwr (by omega); omega) | (have h9 := hto v (by omega) 0 (by have := hwr (by omega); omega); omega) | skip
  all_goals first | (refine hK _ ?_; clear hK K) | (simp only [push_cast]; done)
  refine awp_block ?_
  refine awp_loopU [4,6,25,26,27,28,29,30,31,32,33,34,35,36] [] (fun (k : Nat) => [(25, .int .i64 k), (4, .int .i64 (mostR 1 (w.cost.take k)))]) (fun k => []) (fun k => []) (fun k => k ≤ w.cost.length) (fun k => w.cost.length - k) 0 ?_ (by omega) ?_
  ·
    rw [List.take_zero, show mostR 1 [] = 1 from rfl]
    refine cov_of rfl ?_ ?_ ?_ <;> simp only [covS, covL, push_cast, ↓brB_true, ↓brB_false, ↓reduceIte, zA, zB, zC, zD, zE, zF, zG, zH, zI, reduceCtorEq]
  · rintro k hk KL0 hL0
    have hcv := hcr k
    have hwst : k < w.cost.length → _ := fun h => worst_bd (r := gl w.cost k) (by have := hrow k (by omega); omega) (fun j hj => hc1 k (by omega) j (by have := hrow k (by omega); omega))
    simp only [push_cast, ↓brB_true, ↓brB_false, ↓reduceIte, zA, zB, zC, zD, zE, zF, zG, zH, zI, reduceCtorEq]
    refine awp_seq' fun K hK => ?_
    refine awp_region tyOk tyPos [] rfl ?_
    all_goals simp only [push_cast, ↓brB_true, ↓brB_false, ↓reduceIte, zA, zB, zC, zD, zE, zF, zG, zH, zI, reduceCtorEq]
    all_goals repeat' (first | (apply brB_mk <;> (intro hg; (try simp only [push_cast] at hg))) | apply And.intro | (intro hg; (try simp only [push_cast] at hg)))
    all_goals first | exact gA | (exact getE_dII (by omega)) | (rw [hb2]; omega) | (rw [hb3]; omega) | (rw [hb4]; omega) | (rw [hb5]; omega) | (rw [Int.neg_neg]; have := hwst (by omega); omega) | (have h8 := hwr (by omega); have h7 := hed0 (by omega) (by omega); have h6 := hee0 (by omega) (by omega); omega) | (have h8 := hwr (by omega); have h7 := hedp (by omega); have h6 := hed (by omega); omega) | (have h9 := hto v (by omega) i (by omega); have h8 := hwr (by omega); omega) | (have h9 := hto v (by omega) 0 (by have := hwr (by omega); omega); omega) | skip
    all_goals first | (refine hK _ ?_; clear hK K) | (simp only [push_cast]; done)
    refine awp_seq' fun K2 hK2 => ?_
    refine awp_cond rfl (fun hc => ?_) (fun hc => ?_) <;> (try simp only [push_cast] at hc)
    ·
      refine awp_skip ?_
      (try simp only [AThen, ABlk, reduceIte, zF]); refine hK2 _ ?_
      refine awp_seq' fun K3 hK3 => ?_
      refine awp_block ?_
      refine awp_seq' fun K hK => ?_
      refine awp_region tyOk tyPos [] rfl ?_
      all_goals simp only [push_cast, ↓brB_true, ↓brB_false, ↓reduceIte, zA, zB, zC, zD, zE, zF, zG, zH, zI, reduceCtorEq]
      all_goals repeat' (first | (apply brB_mk <;> (intro hg; (try simp only [push_cast] at hg))) | apply And.intro | (intro hg; (try simp only [push_cast] at hg)))
      all_goals first | exact gA | (exact getE_dII (by omega)) | (rw [hb2]; omega) | (rw [hb3]; omega) | (rw [hb4]; omega) | (rw [hb5]; omega) | (rw [Int.neg_neg]; have := hwst (by omega); omega) | (have h8 := hwr (by omega); have h7 := hed0 (by omega) (by omega); have h6 := hee0 (by omega) (by omega); omega) | (have h8 := hwr (by omega); have h7 := hedp (by omega); have h6 := hed (by omega); omega) | (have h9 := hto v (by omega) i (by omega); have h8 := hwr (by omega); omega) | (have h9 := hto v (by omega) 0 (by have := hwr (by omega); omega); omega) | skip
      all_goals first | (refine hK _ ?_; clear hK K) | (simp only [push_cast]; done)
      refine awp_region tyOk tyPos [] rfl ?_
      all_goals refine aops_cut 3 fun K9 hK9 => ?_
      all_goals simp only [push_cast, ↓brB_true, ↓brB_false, ↓reduceIte, zA, zB, zC, zD, zE, zF, zG, zH, zI, reduceCtorEq]
      all_goals repeat' (first | (apply brB_mk <;> (intro hg; (try simp only [push_cast] at hg))) | (refine ⟨_, hMx k (by omega), ?_⟩; simp only [push_cast, ↓brB_true, ↓brB_false, ↓reduceIte, zA, zB, zC, zD, zE, zF, zG, zH, zI, reduceCtorEq]) | apply And.intro | (intro hg; (try simp only [push_cast] at hg)))
      all_goals first | exact gA | (exact getE_dII (by omega)) | (rw [hb2]; omega) | (rw [hb3]; omega) | (rw [hb4]; omega) | (rw [hb5]; omega) | (rw [Int.neg_neg]; have := hwst (by omega); omega) | (have h8 := hwr (by omega); have h7 := hed0 (by omega) (by omega); have h6 := hee0 (by omega) (by omega); omega) | (have h8 := hwr (by omega); have h7 := hedp (by omega); have h6 := hed (by omega); omega) | (have h9 := hto v (by omega) i (by omega); have h8 := hwr (by omega); omega) | (have h9 := hto v (by omega) 0 (by have := hwr (by omega); omega); omega) | skip
      all_goals first | (refine hK9 _ ?_; clear hK9 K9) | (simp only [push_cast]; done)
      all_goals refine aops_cut 2 fun K9 hK9 => ?_
      all_goals simp only [push_cast, ↓brB_true, ↓brB_false, ↓reduceIte, zA, zB, zC, zD, zE, zF, zG, zH, zI, reduceCtorEq]
      all_goals repeat' (first | (apply brB_mk <;> (intro hg; (try simp only [push_cast] at hg))) | (refine ⟨_, hMn k (by omega), ?_⟩; simp only [push_cast, ↓brB_true, ↓brB_false, ↓reduceIte, zA, zB, zC, zD, zE, zF, zG, zH, zI, reduceCtorEq]) | apply And.intro | (intro hg; (try simp only [push_cast] at hg)))
      all_goals first | exact gA | (exact getE_dII (by omega)) | (rw [hb2]; omega) | (rw [hb3]; omega) | (rw [hb4]; omega) | (rw [hb5]; omega) | (rw [Int.neg_neg]; have := hwst (by omega); omega) | (have h8 := hwr (by omega); have h7 := hed0 (by omega) (by omega); have h6 := hee0 (by omega) (by omega); omega) | (have h8 := hwr (by omega); have h7 := hedp (by omega); have h6 := hed (by omega); omega) | (have h9 := hto v (by omega) i (by omega); have h8 := hwr (by omega); omega) | (have h9 := hto v (by omega) 0 (by have := hwr (by omega); omega); omega) | skip
      all_goals first | (refine hK9 _ ?_; clear hK9 K9) | (simp only [push_cast]; done)
      all_goals simp only [push_cast, ↓brB_true, ↓brB_false, ↓reduceIte, zA, zB, zC, zD, zE, zF, zG, zH, zI, reduceCtorEq]
      all_goals repeat' (first | (apply brB_mk <;> (intro hg; (try simp only [push_cast] at hg))) | (refine ⟨_, hMx k (by omega), ?_⟩; simp only [push_cast, ↓brB_true, ↓brB_false, ↓reduceIte, zA, zB, zC, zD, zE, zF, zG, zH, zI, reduceCtorEq]) | (refine ⟨_, hMn k (by omega), ?_⟩; simp only [push_cast, ↓brB_true, ↓brB_false, ↓reduceIte, zA, zB, zC, zD, zE, zF, zG, zH, zI, reduceCtorEq]) | apply And.intro | (intro hg; (try simp only [push_cast] at hg)))
      all_goals first | exact gA | (exact getE_dII (by omega)) | (rw [hb2]; omega) | (rw [hb3]; omega) | (rw [hb4]; omega) | (rw [hb5]; omega) | (rw [Int.neg_neg]; have := hwst (by omega); omega) | (have h8 := hwr (by omega); have h7 := hed0 (by omega) (by omega); have h6 := hee0 (by omega) (by omega); omega) | (have h8 := hwr (by omega); have h7 := hedp (by omega); have h6 := hed (by omega); omega) | (have h9 := hto v (by omega) i (by omega); have h8 := hwr (by omega); omega) | (have h9 := hto v (by omega) 0 (by have := hwr (by omega); omega); omega) | skip
      (try simp only [AThen, ABlk, reduceIte, zF]); refine hK3 _ ?_
      refine awp_region tyOk tyPos [] rfl ?_
      all_goals simp only [push_cast, ↓brB_true, ↓brB_false, ↓reduceIte, zA, zB, zC, zD, zE, zF, zG, zH, zI, reduceCtorEq]
      all_goals repeat' (first | (apply brB_mk <;> (intro hg; (try simp only [push_cast] at hg))) | apply And.intro | (intro hg; (try simp only [push_cast] at hg)))
      all_goals first | exact gA | (exact getE_dII (by omega)) | (rw [hb2]; omega) | (rw [hb3]; omega) | (rw [hb4]; omega) | (rw [hb5]; omega) | (rw [Int.neg_neg]; have := hwst (by omega); omega) | (have h8 := hwr (by omega); have h7 := hed0 (by omega) (by omega); have h6 := hee0 (by omega) (by omega); omega) | (have h8 := hwr (by omega); have h7 := hedp (by omega); have h6 := hed (by omega); omega) | (have h9 := hto v (by omega) i (by omega); have h8 := hwr (by omega); omega) | (have h9 := hto v (by omega) 0 (by have := hwr (by omega); omega); omega) | skip
      refine hL0 _ ⟨k + 1, by omega, by omega, ?_⟩
      rw [Int.neg_neg, most3 (by have := hrow k (by omega); omega), mostR_take (by omega)]
      refine cov_of rfl ?_ ?_ ?_ <;> simp only [covS, covL, push_cast, ↓brB_true, ↓brB_false, ↓reduceIte, zA, zB, zC, zD, zE, zF, zG, zH, zI, reduceCtorEq]
    ·
      refine awp_exit ?_
      have hkk : k = w.cost.length := by omega
      subst hkk
      rw [List.take_length, show mostR 1 w.cost = mostW w from rfl]
      (try simp only [AThen, ABlk, reduceIte, zF]); refine hK1 _ ?_
      refine awp_seq' fun K hK => ?_
      refine awp_region tyOk tyPos [] rfl ?_
      all_goals simp only [push_cast, ↓brB_true, ↓brB_false, ↓reduceIte, zA, zB, zC, zD, zE, zF, zG, zH, zI, reduceCtorEq]
      all_goals repeat' (first | (apply brB_mk <;> (intro hg; (try simp only [push_cast] at hg))) | apply And.intro | (intro hg; (try simp only [push_cast] at hg)))
      all_goals first | exact gA | (exact getE_dII (by omega)) | (rw [hb2]; omega) | (rw [hb3]; omega) | (rw [hb4]; omega) | (rw [hb5]; omega) | (rw [Int.neg_neg]; have := hwst (by omega); omega) | (have h8 := hwr (by omega); have h7 := hed0 (by omega) (by omega); have h6 := hee0 (by omega) (by omega); omega) | (have h8 := hwr (by omega); have h7 := hedp (by omega); have h6 := hed (by omega); omega) | (have h9 := hto v (by omega) i (by omega); have h8 := hwr (by omega); omega) | (have h9 := hto v (by omega) 0 (by have := hwr (by omega); omega); omega) | skip
      all_goals first | (refine hK _ ?_; clear hK K) | (simp only [push_cast]; done)
      rw [hb4]
      refine awp_seq' fun K hK => ?_
      refine awp_region tyOk tyPos [] rfl ?_
      all_goals simp only [push_cast, ↓brB_true, ↓brB_false, ↓reduceIte, zA, zB, zC, zD, zE, zF, zG, zH, zI, reduceCtorEq]
      all_goals repeat' (first | (apply brB_mk <;> (intro hg; (try simp only [push_cast] at hg))) | apply And.intro | (intro hg; (try simp only [push_cast] at hg)))
      all_goals first | exact gA | (exact getE_dII (by omega)) | (rw [hb2]; omega) | (rw [hb3]; omega) | (rw [hb4]; omega) | (rw [hb5]; omega) | (rw [Int.neg_neg]; have := hwst (by omega); omega) | (have h8 := hwr (by omega); have h7 := hed0 (by omega) (by omega); have h6 := hee0 (by omega) (by omega); omega) | (have h8 := hwr (by omega); have h7 := hedp (by omega); have h6 := hed (by omega); omega) | (have h9 := hto v (by omega) i (by omega); have h8 := hwr (by omega); omega) | (have h9 := hto v (by omega) 0 (by have := hwr (by omega); omega); omega) | skip
      all_goals first | (refine hK _ ?_; clear hK K) | (simp only [push_cast]; done)
      refine awp_seq' fun K hK => ?_
      refine awp_region tyOk tyPos [] rfl ?_
      all_goals simp only [push_cast, ↓brB_true, ↓brB_false, ↓reduceIte, zA, zB, zC, zD, zE, zF, zG, zH, zI, reduceCtorEq]
      all_goals repeat' (first | (apply brB_mk <;> (intro hg; (try simp only [push_cast] at hg))) | apply And.intro | (intro hg; (try simp only [push_cast] at hg)))
      all_goals first | exact gA | (exact getE_dII (by omega)) | (rw [hb2]; omega) | (rw [hb3]; omega) | (rw [hb4]; omega) | (rw [hb5]; omega) | (rw [Int.neg_neg]; have := hwst (by omega); omega) | (have h8 := hwr (by omega); have h7 := hed0 (by omega) (by omega); have h6 := hee0 (by omega) (by omega); omega) | (have h8 := hwr (by omega); have h7 := hedp (by omega); have h6 := hed (by omega); omega) | (have h9 := hto v (by omega) i (by omega); have h8 := hwr (by omega); omega) | (have h9 := hto v (by omega) 0 (by have := hwr (by omega); omega); omega) | skip
      all_goals first | (refine hK _ ?_; clear hK K) | (simp only [push_cast]; done)
      refine awp_seq' fun K4 hK4 => ?_
      refine awp_seq' fun K hK => ?_
      refine awp_region tyOk tyPos [] rfl ?_
      all_goals simp only [push_cast, ↓brB_true, ↓brB_false, ↓reduceIte, zA, zB, zC, zD, zE, zF, zG, zH, zI, reduceCtorEq]
      all_goals repeat' (first | (apply brB_mk <;> (intro hg; (try simp only [push_cast] at hg))) | apply And.intro | (intro hg; (try simp only [push_cast] at hg)))
      all_goals first | exact gA | (exact getE_dII (by omega)) | (rw [hb2]; omega) | (rw [hb3]; omega) | (rw [hb4]; omega) | (rw [hb5]; omega) | (rw [Int.neg_neg]; have := hwst (by omega); omega) | (have h8 := hwr (by omega); have h7 := hed0 (by omega) (by omega); have h6 := hee0 (by omega) (by omega); omega) | (have h8 := hwr (by omega); have h7 := hedp (by omega); have h6 := hed (by omega); omega) | (have h9 := hto v (by omega) i (by omega); have h8 := hwr (by omega); omega) | (have h9 := hto v (by omega) 0 (by have := hwr (by omega); omega); omega) | skip
      all_goals first | (refine hK _ ?_; clear hK K) | (simp only [push_cast]; done)
      refine awp_block ?_
      refine awp_loopU [8,9,10,11,12,13,14,15,51,52,53,54,55,56,57,58,59,60,61,62,63,64,65,66,67,68,69,70,71,72,73,74,75,76,77,78,79,80,81,82,83,84,85,86,87,88,89,90,91,92,93,94,95,96,97,98,99,100,101,102,103,104,105,106,107,108,109,110,111,112,113,114,115,116,117,118,119,120,121,122,123,124,125,126,127,128,129,130,131] [] (fun (u : Nat × List Int) => [(51, .int .i64 u.1), (8, .sl 128 [] 0 w.a.owner.length 2), (9, .sl 144 [] 0 w.a.owner.length 2)]) (fun u => []) (fun u => [(128, ⟨.ex, 2, dI (payL w u.1), none⟩), (144, ⟨.ex, 2, dI u.2, none⟩)]) (fun u => u.1 ≤ T + 1 ∧ u.2.length = w.a.owner.length) (fun u => T + 1 - u.1) (0, List.replicate w.a.owner.length 0) ?_ ⟨by omega, by simp⟩ ?_
      ·
        rw [payL_0]
        refine cov_of rfl ?_ ?_ ?_ <;> simp only [covS, covL, push_cast, ↓brB_true, ↓brB_false, ↓reduceIte, zA, zB, zC, zD, zE, zF, zG, zH, zI, reduceCtorEq]
      · rintro ⟨k, z0⟩ ⟨hk, hz0⟩ KL1 hL1
        simp only at hk hz0
        have hpl := payL_len w k
        simp only [push_cast, ↓brB_true, ↓brB_false, ↓reduceIte, zA, zB, zC, zD, zE, zF, zG, zH, zI, reduceCtorEq]
        refine awp_seq' fun K hK => ?_
        refine awp_region tyOk tyPos [] rfl ?_
        all_goals simp only [push_cast, ↓brB_true, ↓brB_false, ↓reduceIte, zA, zB, zC, zD, zE, zF, zG, zH, zI, reduceCtorEq]
        all_goals repeat' (first | (apply brB_mk <;> (intro hg; (try simp only [push_cast] at hg))) | apply And.intro | (intro hg; (try simp only [push_cast] at hg)))
        all_goals first | exact gA | (exact getE_dII (by omega)) | (rw [hb2]; omega) | (rw [hb3]; omega) | (rw [hb4]; omega) | (rw [hb5]; omega) | (rw [Int.neg_neg]; have := hwst (by omega); omega) | (have h8 := hwr (by omega); have h7 := hed0 (by omega) (by omega); have h6 := hee0 (by omega) (by omega); omega) | (have h8 := hwr (by omega); have h7 := hedp (by omega); have h6 := hed (by omega); omega) | (have h9 := hto v (by omega) i (by omega); have h8 := hwr (by omega); omega) | (have h9 := hto v (by omega) 0 (by have := hwr (by omega); omega); omega) | skip
        all_goals first | (refine hK _ ?_; clear hK K) | (simp only [push_cast]; done)
        refine awp_seq' fun K5 hK5 => ?_
        refine awp_cond rfl (fun hc => ?_) (fun hc => ?_) <;> (try simp only [push_cast] at hc)
        ·
          refine awp_skip ?_
          (try simp only [AThen, ABlk, reduceIte, zF]); refine hK5 _ ?_
          refine awp_seq' fun K6 hK6 => ?_
          refine awp_block ?_
          refine awp_seq' fun K7 hK7 => ?_
          refine awp_seq' fun K hK => ?_
          refine awp_region tyOk tyPos [] rfl ?_
          all_goals simp only [push_cast, ↓brB_true, ↓brB_false, ↓reduceIte, zA, zB, zC, zD, zE, zF, zG, zH, zI, reduceCtorEq]
          all_goals repeat' (first | (apply brB_mk <;> (intro hg; (try simp only [push_cast] at hg))) | apply And.intro | (intro hg; (try simp only [push_cast] at hg)))
          all_goals first | exact gA | (exact getE_dII (by omega)) | (rw [hb2]; omega) | (rw [hb3]; omega) | (rw [hb4]; omega) | (rw [hb5]; omega) | (rw [Int.neg_neg]; have := hwst (by omega); omega) | (have h8 := hwr (by omega); have h7 := hed0 (by omega) (by omega); have h6 := hee0 (by omega) (by omega); omega) | (have h8 := hwr (by omega); have h7 := hedp (by omega); have h6 := hed (by omega); omega) | (have h9 := hto v (by omega) i (by omega); have h8 := hwr (by omega); omega) | (have h9 := hto v (by omega) 0 (by have := hwr (by omega); omega); omega) | skip
          all_goals first | (refine hK _ ?_; clear hK K) | (simp only [push_cast]; done)
          refine awp_block ?_
          refine awp_loopU [10,11,12,13,14,15,57,58,59,60,61,62,63,64,65,66,67,68,69,70,71,72,73,74,75,76,77,78,79,80,81,82,83,84,85,86,87,88,89,90,91,92,93,94,95,96,97,98,99,100,101,102,103,104,105,106,107,108,109,110,111,112,113,114,115,116,117,118,119,120,121,122,123,124,125,126,127,128] [144] (fun (u : Nat × List Int) => [(57, .int .i64 u.1)]) (fun u => []) (fun u => [(144, ⟨.ex, 2, dI u.2, none⟩)]) (fun u => u.1 ≤ w.a.owner.length ∧ u.2.length = w.a.owner.length ∧ ∀ u9, u9 < u.1 → gi u.2 u9 = (gmW w).pay (k + 1) u9) (fun u => w.a.owner.length - u.1) (0, z0) ?_ ⟨by omega, by omega, fun u9 h => by simp only at h; omega⟩ ?_
          ·
            refine cov_of rfl ?_ ?_ ?_ <;> simp only [covS, covL, push_cast, ↓brB_true, ↓brB_false, ↓reduceIte, zA, zB, zC, zD, zE, zF, zG, zH, zI, reduceCtorEq]
          · rintro ⟨v, z⟩ ⟨hv, hz, hall⟩ KL2 hL2
            simp only at hv hz hall
            have hwr : v < w.a.owner.length → _ := fun h => hrow v h
            have hwo : v < w.a.owner.length → _ := fun h => hown v h
            have hrv := hr v
            have hcv := hcr v
            have hed0 : v < w.a.owner.length → 0 < (gl w.a.next v).length → gi (payL w k) (gi (gl w.a.next v) 0).toNat + gi (gl w.cost v) 0 = edgeV w k v 0 := fun h0 h => by unfold edgeV; rw [payL_gi (by have := hto v h0 0 h; omega), Int.add_comm]
            have hee0 : v < w.a.owner.length → 0 < (gl w.a.next v).length → _ := fun h0 h => edge_bd hw (k := k) h0 h (by omega)
            simp only [push_cast, ↓brB_true, ↓brB_false, ↓reduceIte, zA, zB, zC, zD, zE, zF, zG, zH, zI, reduceCtorEq]
            refine awp_seq' fun K hK => ?_
            refine awp_region tyOk tyPos [] rfl ?_
            all_goals simp only [push_cast, ↓brB_true, ↓brB_false, ↓reduceIte, zA, zB, zC, zD, zE, zF, zG, zH, zI, reduceCtorEq]
            all_goals repeat' (first | (apply brB_mk <;> (intro hg; (try simp only [push_cast] at hg))) | apply And.intro | (intro hg; (try simp only [push_cast] at hg)))
            all_goals first | exact gA | (exact getE_dII (by omega)) | (rw [hb2]; omega) | (rw [hb3]; omega) | (rw [hb4]; omega) | (rw [hb5]; omega) | (rw [Int.neg_neg]; have := hwst (by omega); omega) | (have h8 := hwr (by omega); have h7 := hed0 (by omega) (by omega); have h6 := hee0 (by omega) (by omega); omega) | (have h8 := hwr (by omega); have h7 := hedp (by omega); have h6 := hed (by omega); omega) | (have h9 := hto v (by omega) i (by omega); have h8 := hwr (by omega); omega) | (have h9 := hto v (by omega) 0 (by have := hwr (by omega); omega); omega) | skip
            all_goals first | (refine hK _ ?_; clear hK K) | (simp only [push_cast]; done)
            refine awp_seq' fun K8 hK8 => ?_
            refine awp_cond rfl (fun hc => ?_) (fun hc => ?_) <;> (try simp only [push_cast] at hc)
            ·
              refine awp_skip ?_
              (try simp only [AThen, ABlk, reduceIte, zF]); refine hK8 _ ?_
              refine awp_seq' fun K9 hK9 => ?_
              refine awp_block ?_
              refine awp_seq' fun K hK => ?_
              refine awp_region tyOk tyPos [] rfl ?_
              all_goals simp only [push_cast, ↓brB_true, ↓brB_false, ↓reduceIte, zA, zB, zC, zD, zE, zF, zG, zH, zI, reduceCtorEq]
              all_goals repeat' (first | (apply brB_mk <;> (intro hg; (try simp only [push_cast] at hg))) | apply And.intro | (intro hg; (try simp only [push_cast] at hg)))
              all_goals first | exact gA | (exact getE_dII (by omega)) | (rw [hb2]; omega) | (rw [hb3]; omega) | (rw [hb4]; omega) | (rw [hb5]; omega) | (rw [Int.neg_neg]; have := hwst (by omega); omega) | (have h8 := hwr (by omega); have h7 := hed0 (by omega) (by omega); have h6 := hee0 (by omega) (by omega); omega) | (have h8 := hwr (by omega); have h7 := hedp (by omega); have h6 := hed (by omega); omega) | (have h9 := hto v (by omega) i (by omega); have h8 := hwr (by omega); omega) | (have h9 := hto v (by omega) 0 (by have := hwr (by omega); omega); omega) | skip
              all_goals first | (refine hK _ ?_; clear hK K) | (simp only [push_cast]; done)
              refine awp_seq' fun K hK => ?_
              refine awp_regionD1 false tyOk tyPos tyMix ?_ rfl ?_
              · kernel_rfl
              intro E hE
              all_goals simp only [push_cast, ↓brB_true, ↓brB_false, ↓reduceIte, zA, zB, zC, zD, zE, zF, zG, zH, zI, reduceCtorEq]
              all_goals repeat' (first | (apply brB_mk <;> (intro hg; (try simp only [push_cast] at hg))) | apply And.intro | (intro hg; (try simp only [push_cast] at hg)))
              all_goals first | exact gA | (refine hE _ _ ?_ ?_; kernel_rfl) | (exact getE_dII (by omega)) | (rw [hb2]; omega) | (rw [hb3]; omega) | (rw [hb4]; omega) | (rw [hb5]; omega) | (rw [Int.neg_neg]; have := hwst (by omega); omega) | (have h8 := hwr (by omega); have h7 := hed0 (by omega) (by omega); have h6 := hee0 (by omega) (by omega); omega) | (have h8 := hwr (by omega); have h7 := hedp (by omega); have h6 := hed (by omega); omega) | (have h9 := hto v (by omega) i (by omega); have h8 := hwr (by omega); omega) | (have h9 := hto v (by omega) 0 (by have := hwr (by omega); omega); omega) | skip
              all_goals clear hE E
              all_goals first | (refine hK _ ?_; clear hK K) | (simp only [push_cast]; done)
              refine awp_seq' fun K10 hK10 => ?_
              rw [hed0 (by omega) (by have := hwr (by omega); omega)]
              refine awp_seq' fun K hK => ?_
              refine awp_region tyOk tyPos [] rfl ?_
              all_goals simp only [push_cast, ↓brB_true, ↓brB_false, ↓reduceIte, zA, zB, zC, zD, zE, zF, zG, zH, zI, reduceCtorEq]
              all_goals repeat' (first | (apply brB_mk <;> (intro hg; (try simp only [push_cast] at hg))) | apply And.intro | (intro hg; (try simp only [push_cast] at hg)))
              all_goals first | exact gA | (exact getE_dII (by omega)) | (rw [hb2]; omega) | (rw [hb3]; omega) | (rw [hb4]; omega) | (rw [hb5]; omega) | (rw [Int.neg_neg]; have := hwst (by omega); omega) | (have h8 := hwr (by omega); have h7 := hed0 (by omega) (by omega); have h6 := hee0 (by omega) (by omega); omega) | (have h8 := hwr (by omega); have h7 := hedp (by omega); have h6 := hed (by omega); omega) | (have h9 := hto v (by omega) i (by omega); have h8 := hwr (by omega); omega) | (have h9 := hto v (by omega) 0 (by have := hwr (by omega); omega); omega) | skip
              all_goals first | (refine hK _ ?_; clear hK K) | (simp only [push_cast]; done)
              refine awp_block ?_
              refine awp_loopU [12,13,14,15,78,79,80,81,82,83,84,85,86,87,88,89,90,91,92,93,94,95,96,97,98,99,100,101,102,103,104,105,106,107,108,109,110,111,112,113,114,115,116,117,118,119,120,121,122,123] [] (fun (i : Nat) => [(78, .int .i64 i), (12, .int .i64 (bestK w k v i))]) (fun i => []) (fun i => []) (fun i => i ≤ (gl w.a.next v).length) (fun i => (gl w.a.next v).length - i) 0 ?_ (by omega) ?_
              ·
                rw [bestK_0]
                refine cov_of rfl ?_ ?_ ?_ <;> simp only [covS, covL, push_cast, ↓brB_true, ↓brB_false, ↓reduceIte, zA, zB, zC, zD, zE, zF, zG, zH, zI, reduceCtorEq]
              · rintro i hi KL3 hL3
                have hwi : i < (gl w.a.next v).length → _ := fun h => hto v (by omega) i h
                have hed : i < (gl w.a.next v).length → _ := fun h => edge_bd hw (k := k) (by omega) h (by omega)
                have hbk := bestK_bd hw (k := k) (v := v) (i := i) (by omega) hi (by omega)
                have hedp : i < (gl w.a.next v).length → gi (payL w k) (gi (gl w.a.next v) i).toNat + gi (gl w.cost v) i = edgeV w k v i := fun h => by unfold edgeV; rw [payL_gi (by have := hwi h; omega), Int.add_comm]
                simp only [push_cast, ↓brB_true, ↓brB_false, ↓reduceIte, zA, zB, zC, zD, zE, zF, zG, zH, zI, reduceCtorEq]
                refine awp_seq' fun K hK => ?_
                refine awp_region tyOk tyPos [] rfl ?_
                all_goals simp only [push_cast, ↓brB_true, ↓brB_false, ↓reduceIte, zA, zB, zC, zD, zE, zF, zG, zH, zI, reduceCtorEq]
                all_goals repeat' (first | (apply brB_mk <;> (intro hg; (try simp only [push_cast] at hg))) | apply And.intro | (intro hg; (try simp only [push_cast] at hg)))
                all_goals first | exact gA | (exact getE_dII (by omega)) | (rw [hb2]; omega) | (rw [hb3]; omega) | (rw [hb4]; omega) | (rw [hb5]; omega) | (rw [Int.neg_neg]; have := hwst (by omega); omega) | (have h8 := hwr (by omega); have h7 := hed0 (by omega) (by omega); have h6 := hee0 (by omega) (by omega); omega) | (have h8 := hwr (by omega); have h7 := hedp (by omega); have h6 := hed (by omega); omega) | (have h9 := hto v (by omega) i (by omega); have h8 := hwr (by omega); omega) | (have h9 := hto v (by omega) 0 (by have := hwr (by omega); omega); omega) | skip
                all_goals first | (refine hK _ ?_; clear hK K) | (simp only [push_cast]; done)
                refine awp_seq' fun K11 hK11 => ?_
                refine awp_cond rfl (fun hc => ?_) (fun hc => ?_) <;> (try simp only [push_cast] at hc)
                ·
                  refine awp_skip ?_
                  (try simp only [AThen, ABlk, reduceIte, zF]); refine hK11 _ ?_
                  refine awp_seq' fun K12 hK12 => ?_
                  refine awp_block ?_
                  refine awp_seq' fun K hK => ?_
                  refine awp_region tyOk tyPos [] rfl ?_
                  all_goals simp only [push_cast, ↓brB_true, ↓brB_false, ↓reduceIte, zA, zB, zC, zD, zE, zF, zG, zH, zI, reduceCtorEq]
                  all_goals repeat' (first | (apply brB_mk <;> (intro hg; (try simp only [push_cast] at hg))) | apply And.intro | (intro hg; (try simp only [push_cast] at hg)))
                  all_goals first | exact gA | (exact getE_dII (by omega)) | (rw [hb2]; omega) | (rw [hb3]; omega) | (rw [hb4]; omega) | (rw [hb5]; omega) | (rw [Int.neg_neg]; have := hwst (by omega); omega) | (have h8 := hwr (by omega); have h7 := hed0 (by omega) (by omega); have h6 := hee0 (by omega) (by omega); omega) | (have h8 := hwr (by omega); have h7 := hedp (by omega); have h6 := hed (by omega); omega) | (have h9 := hto v (by omega) i (by omega); have h8 := hwr (by omega); omega) | (have h9 := hto v (by omega) 0 (by have := hwr (by omega); omega); omega) | skip
                  all_goals first | (refine hK _ ?_; clear hK K) | (simp only [push_cast]; done)
                  refine awp_seq' fun K hK => ?_
                  refine awp_regionD1 false tyOk tyPos tyMix ?_ rfl ?_
                  · kernel_rfl
                  intro E hE
                  all_goals simp only [push_cast, ↓brB_true, ↓brB_false, ↓reduceIte, zA, zB, zC, zD, zE, zF, zG, zH, zI, reduceCtorEq]
                  all_goals repeat' (first | (apply brB_mk <;> (intro hg; (try simp only [push_cast] at hg))) | apply And.intro | (intro hg; (try simp only [push_cast] at hg)))
                  all_goals first | exact gA | (refine hE _ _ ?_ ?_; kernel_rfl) | (exact getE_dII (by omega)) | (rw [hb2]; omega) | (rw [hb3]; omega) | (rw [hb4]; omega) | (rw [hb5]; omega) | (rw [Int.neg_neg]; have := hwst (by omega); omega) | (have h8 := hwr (by omega); have h7 := hed0 (by omega) (by omega); have h6 := hee0 (by omega) (by omega); omega) | (have h8 := hwr (by omega); have h7 := hedp (by omega); have h6 := hed (by omega); omega) | (have h9 := hto v (by omega) i (by omega); have h8 := hwr (by omega); omega) | (have h9 := hto v (by omega) 0 (by have := hwr (by omega); omega); omega) | skip
                  all_goals clear hE E
                  all_goals first | (refine hK _ ?_; clear hK K) | (simp only [push_cast]; done)
                  rw [hedp (by have := hwr (by omega); omega)]
                  refine awp_seq' fun K hK => ?_
                  refine awp_regionN false tyOk tyPos ?_ rfl ?_
                  · kernel_rfl
                  all_goals simp only [push_cast, ↓brB_true, ↓brB_false, ↓reduceIte, zA, zB, zC, zD, zE, zF, zG, zH, zI, reduceCtorEq]
                  all_goals repeat' (first | (apply brB_mk <;> (intro hg; (try simp only [push_cast] at hg))) | apply And.intro | (intro hg; (try simp only [push_cast] at hg)))
                  all_goals first | exact gA | (exact getE_dII (by omega)) | (rw [hb2]; omega) | (rw [hb3]; omega) | (rw [hb4]; omega) | (rw [hb5]; omega) | (rw [Int.neg_neg]; have := hwst (by omega); omega) | (have h8 := hwr (by omega); have h7 := hed0 (by omega) (by omega); have h6 := hee0 (by omega) (by omega); omega) | (have h8 := hwr (by omega); have h7 := hedp (by omega); have h6 := hed (by omega); omega) | (have h9 := hto v (by omega) i (by omega); have h8 := hwr (by omega); omega) | (have h9 := hto v (by omega) 0 (by have := hwr (by omega); omega); omega) | skip
                  all_goals first | (refine hK _ ?_; clear hK K) | (simp only [push_cast]; done)
                  all_goals refine awp_cond rfl (fun hc => ?_) (fun hc => ?_)
                  all_goals (first | (cases hc; done) | skip)
                  all_goals (try simp only [push_cast] at hc)
                  all_goals first
                    | (
                        refine awp_skip ?_
                        (try simp only [AThen, ABlk, reduceIte, zF]); refine hK12 _ ?_
                        refine awp_region tyOk tyPos [] rfl ?_
                        all_goals simp only [push_cast, ↓brB_true, ↓brB_false, ↓reduceIte, zA, zB, zC, zD, zE, zF, zG, zH, zI, reduceCtorEq]
                        all_goals repeat' (first | (apply brB_mk <;> (intro hg; (try simp only [push_cast] at hg))) | apply And.intro | (intro hg; (try simp only [push_cast] at hg)))
                        all_goals first | exact gA | (exact getE_dII (by omega)) | (rw [hb2]; omega) | (rw [hb3]; omega) | (rw [hb4]; omega) | (rw [hb5]; omega) | (rw [Int.neg_neg]; have := hwst (by omega); omega) | (have h8 := hwr (by omega); have h7 := hed0 (by omega) (by omega); have h6 := hee0 (by omega) (by omega); omega) | (have h8 := hwr (by omega); have h7 := hedp (by omega); have h6 := hed (by omega); omega) | (have h9 := hto v (by omega) i (by omega); have h8 := hwr (by omega); omega) | (have h9 := hto v (by omega) 0 (by have := hwr (by omega); omega); omega) | skip
                        refine hL3 _ ⟨i + 1, by omega, by omega, ?_⟩
                        rw [bestK_no (by omega)]
                        refine cov_of rfl ?_ ?_ ?_ <;> simp only [covS, covL, push_cast, ↓brB_true, ↓brB_false, ↓reduceIte, zA, zB, zC, zD, zE, zF, zG, zH, zI, reduceCtorEq]
                        done)
                    | (
                        refine awp_region tyOk tyPos [] rfl ?_
                        all_goals simp only [push_cast, ↓brB_true, ↓brB_false, ↓reduceIte, zA, zB, zC, zD, zE, zF, zG, zH, zI, reduceCtorEq]
                        all_goals repeat' (first | (apply brB_mk <;> (intro hg; (try simp only [push_cast] at hg))) | apply And.intro | (intro hg; (try simp only [push_cast] at hg)))
                        all_goals first | exact gA | (exact getE_dII (by omega)) | (rw [hb2]; omega) | (rw [hb3]; omega) | (rw [hb4]; omega) | (rw [hb5]; omega) | (rw [Int.neg_neg]; have := hwst (by omega); omega) | (have h8 := hwr (by omega); have h7 := hed0 (by omega) (by omega); have h6 := hee0 (by omega) (by omega); omega) | (have h8 := hwr (by omega); have h7 := hedp (by omega); have h6 := hed (by omega); omega) | (have h9 := hto v (by omega) i (by omega); have h8 := hwr (by omega); omega) | (have h9 := hto v (by omega) 0 (by have := hwr (by omega); omega); omega) | skip
                        (try simp only [AThen, ABlk, reduceIte, zF]); refine hK12 _ ?_
                        refine awp_region tyOk tyPos [] rfl ?_
                        all_goals simp only [push_cast, ↓brB_true, ↓brB_false, ↓reduceIte, zA, zB, zC, zD, zE, zF, zG, zH, zI, reduceCtorEq]
                        all_goals repeat' (first | (apply brB_mk <;> (intro hg; (try simp only [push_cast] at hg))) | apply And.intro | (intro hg; (try simp only [push_cast] at hg)))
                        all_goals first | exact gA | (exact getE_dII (by omega)) | (rw [hb2]; omega) | (rw [hb3]; omega) | (rw [hb4]; omega) | (rw [hb5]; omega) | (rw [Int.neg_neg]; have := hwst (by omega); omega) | (have h8 := hwr (by omega); have h7 := hed0 (by omega) (by omega); have h6 := hee0 (by omega) (by omega); omega) | (have h8 := hwr (by omega); have h7 := hedp (by omega); have h6 := hed (by omega); omega) | (have h9 := hto v (by omega) i (by omega); have h8 := hwr (by omega); omega) | (have h9 := hto v (by omega) 0 (by have := hwr (by omega); omega); omega) | skip
                        refine hL3 _ ⟨i + 1, by omega, by omega, ?_⟩
                        rw [bestK_yes (by omega)]
                        refine cov_of rfl ?_ ?_ ?_ <;> simp only [covS, covL, push_cast, ↓brB_true, ↓brB_false, ↓reduceIte, zA, zB, zC, zD, zE, zF, zG, zH, zI, reduceCtorEq]
                        done)
                ·
                  refine awp_exit ?_
                  have hii : i = (gl w.a.next v).length := by omega
                  subst hii
                  rw [bestK_all (by have := hwr (by omega); omega)]
                  (try simp only [AThen, ABlk, reduceIte, zF]); refine hK10 _ ?_
                  refine awp_region tyOk tyPos [] rfl ?_
                  all_goals simp only [push_cast, ↓brB_true, ↓brB_false, ↓reduceIte, zA, zB, zC, zD, zE, zF, zG, zH, zI, reduceCtorEq]
                  all_goals repeat' (first | (apply brB_mk <;> (intro hg; (try simp only [push_cast] at hg))) | apply And.intro | (intro hg; (try simp only [push_cast] at hg)))
                  all_goals first | exact gA | (exact getE_dII (by omega)) | (rw [hb2]; omega) | (rw [hb3]; omega) | (rw [hb4]; omega) | (rw [hb5]; omega) | (rw [Int.neg_neg]; have := hwst (by omega); omega) | (have h8 := hwr (by omega); have h7 := hed0 (by omega) (by omega); have h6 := hee0 (by omega) (by omega); omega) | (have h8 := hwr (by omega); have h7 := hedp (by omega); have h6 := hed (by omega); omega) | (have h9 := hto v (by omega) i (by omega); have h8 := hwr (by omega); omega) | (have h9 := hto v (by omega) 0 (by have := hwr (by omega); omega); omega) | skip
                  (try simp only [AThen, ABlk, reduceIte, zF]); refine hK9 _ ?_
                  refine awp_region tyOk tyPos [] rfl ?_
                  all_goals simp only [push_cast, ↓brB_true, ↓brB_false, ↓reduceIte, zA, zB, zC, zD, zE, zF, zG, zH, zI, reduceCtorEq]
                  all_goals repeat' (first | (apply brB_mk <;> (intro hg; (try simp only [push_cast] at hg))) | apply And.intro | (intro hg; (try simp only [push_cast] at hg)))
                  all_goals first | exact gA | (exact getE_dII (by omega)) | (rw [hb2]; omega) | (rw [hb3]; omega) | (rw [hb4]; omega) | (rw [hb5]; omega) | (rw [Int.neg_neg]; have := hwst (by omega); omega) | (have h8 := hwr (by omega); have h7 := hed0 (by omega) (by omega); have h6 := hee0 (by omega) (by omega); omega) | (have h8 := hwr (by omega); have h7 := hedp (by omega); have h6 := hed (by omega); omega) | (have h9 := hto v (by omega) i (by omega); have h8 := hwr (by omega); omega) | (have h9 := hto v (by omega) 0 (by have := hwr (by omega); omega); omega) | skip
                  refine hL2 _ ⟨(v + 1, z.set v ((gmW w).pay (k + 1) v)), ⟨by simp only; omega, by simp only; rw [List.length_set]; exact hz, fun u9 h9 => (by
                      simp only at h9 ⊢
                      by_cases e : u9 = v
                      · subst e
                        exact set_same (by omega)
                      · rw [set_keep e, hall u9 (by omega)])⟩, by simp only; omega, ?_⟩
                  refine cov_of rfl ?_ ?_ ?_ <;> simp only [covS, covL, push_cast, ↓brB_true, ↓brB_false, ↓reduceIte, zA, zB, zC, zD, zE, zF, zG, zH, zI, reduceCtorEq]
            ·
              refine awp_exit ?_
              have hvv : v = w.a.owner.length := by omega
              subst hvv
              (try simp only [AThen, ABlk, reduceIte, zF]); refine hK7 _ ?_
              refine awp_region tyOk tyPos [128, 144] rfl ?_
              simp only [push_cast, ↓brB_true, ↓brB_false, ↓reduceIte, zA, zB, zC, zD, zE, zF, zG, zH, zI, reduceCtorEq]
              repeat' apply And.intro
              all_goals try exact gB
              (try simp only [AThen, ABlk, reduceIte, zF]); refine hK6 _ ?_
              refine awp_moveTo 2 8 4096 (Nat.le_of_ble_eq_true rfl) ?_
              simp only [push_cast, ↓brB_true, ↓brB_false, ↓reduceIte, zA, zB, zC, zD, zE, zF, zG, zH, zI, reduceCtorEq]
              refine awp_moveTo 2 9 144 (Nat.le_of_ble_eq_true rfl) ?_
              simp only [push_cast, ↓brB_true, ↓brB_false, ↓reduceIte, zA, zB, zC, zD, zE, zF, zG, zH, zI, reduceCtorEq]
              refine awp_moveTo 2 8 128 (Nat.le_of_ble_eq_true rfl) ?_
              simp only [push_cast, ↓brB_true, ↓brB_false, ↓reduceIte, zA, zB, zC, zD, zE, zF, zG, zH, zI, reduceCtorEq]
              refine awp_region tyOk tyPos [] rfl ?_
              all_goals simp only [push_cast, ↓brB_true, ↓brB_false, ↓reduceIte, zA, zB, zC, zD, zE, zF, zG, zH, zI, reduceCtorEq]
              all_goals repeat' (first | (apply brB_mk <;> (intro hg; (try simp only [push_cast] at hg))) | apply And.intro | (intro hg; (try simp only [push_cast] at hg)))
              all_goals first | exact gA | (exact getE_dII (by omega)) | (rw [hb2]; omega) | (rw [hb3]; omega) | (rw [hb4]; omega) | (rw [hb5]; omega) | (rw [Int.neg_neg]; have := hwst (by omega); omega) | (have h8 := hwr (by omega); have h7 := hed0 (by omega) (by omega); have h6 := hee0 (by omega) (by omega); omega) | (have h8 := hwr (by omega); have h7 := hedp (by omega); have h6 := hed (by omega); omega) | (have h9 := hto v (by omega) i (by omega); have h8 := hwr (by omega); omega) | (have h9 := hto v (by omega) 0 (by have := hwr (by omega); omega); omega) | skip
              refine hL1 _ ⟨(k + 1, payL w k), ⟨by simp only; omega, payL_len w k⟩, by simp only; omega, ?_⟩
              rw [show z = payL w (k + 1) from payL_ext hz fun u hu => hall u (by omega)]
              refine cov_of rfl ?_ ?_ ?_ <;> simp only [covS, covL, push_cast, ↓brB_true, ↓brB_false, ↓reduceIte, zA, zB, zC, zD, zE, zF, zG, zH, zI, reduceCtorEq]
              all_goals (try (rw [payL_len]; done))
        ·
          refine awp_exit ?_
          have hkk : k = T + 1 := by omega
          subst hkk
          (try simp only [AThen, ABlk, reduceIte, zF]); refine hK4 _ ?_
          refine awp_seq' fun K hK => ?_
          refine awp_regionN false tyOk tyPos ?_ rfl ?_
          · kernel_rfl
          simp only [push_cast, ↓brB_true, ↓brB_false, ↓reduceIte, zA, zB, zC, zD, zE, zF, zG, zH, zI, reduceCtorEq]
          all_goals repeat' (first | (apply brB_mk <;> (intro hg; (try simp only [push_cast] at hg))) | apply And.intro | (intro hg; (try simp only [push_cast] at hg)))
          all_goals first | exact gA | (exact getE_dII (by omega)) | (rw [hb2]; omega) | (rw [hb3]; omega) | (rw [hb4]; omega) | (rw [hb5]; omega) | (rw [Int.neg_neg]; have := hwst (by omega); omega) | (have h8 := hwr (by omega); have h7 := hed0 (by omega) (by omega); have h6 := hee0 (by omega) (by omega); omega) | (have h8 := hwr (by omega); have h7 := hedp (by omega); have h6 := hed (by omega); omega) | (have h9 := hto v (by omega) i (by omega); have h8 := hwr (by omega); omega) | (have h9 := hto v (by omega) 0 (by have := hwr (by omega); omega); omega) | skip
          all_goals first | (refine hK _ ?_; clear hK K) | (simp only [push_cast]; done)
          refine awp_seq' fun K13 hK13 => ?_
          refine awp_settle 50 16 (Nat.le_of_ble_eq_true rfl) ?_
          simp only [push_cast, ↓brB_true, ↓brB_false, ↓reduceIte, zA, zB, zC, zD, zE, zF, zG, zH, zI, reduceCtorEq]
          have hNr := fun k (hk : k < w.a.owner.length) => nearestFrac_fn (gi (payL w (T + 1)) k) (T + 1 : Nat) w.a.owner.length (2 * w.a.owner.length * mostW w) (mostW w) _ _ (near_val hw hk (T + 1)) (by rw [payL_gi hk]; have := hw.payB hk (by omega : T + 1 ≤ 2048001); omega) (by rw [← hT]; omega) rfl
          unfold dFr at hNr
          simp only [push_cast] at hNr
          refine awp_seq' fun K hK => ?_
          refine awp_region tyOk tyPos [] rfl ?_
          all_goals simp only [push_cast, ↓brB_true, ↓brB_false, ↓reduceIte, zA, zB, zC, zD, zE, zF, zG, zH, zI, reduceCtorEq]
          all_goals repeat' (first | (apply brB_mk <;> (intro hg; (try simp only [push_cast] at hg))) | apply And.intro | (intro hg; (try simp only [push_cast] at hg)))
          all_goals first | exact gA | (exact getE_dII (by omega)) | (rw [hb2]; omega) | (rw [hb3]; omega) | (rw [hb4]; omega) | (rw [hb5]; omega) | (rw [Int.neg_neg]; have := hwst (by omega); omega) | (have h8 := hwr (by omega); have h7 := hed0 (by omega) (by omega); have h6 := hee0 (by omega) (by omega); omega) | (have h8 := hwr (by omega); have h7 := hedp (by omega); have h6 := hed (by omega); omega) | (have h9 := hto v (by omega) i (by omega); have h8 := hwr (by omega); omega) | (have h9 := hto v (by omega) 0 (by have := hwr (by omega); omega); omega) | skip
          all_goals first | (refine hK _ ?_; clear hK K) | (simp only [push_cast]; done)
          refine awp_block ?_
          refine awp_loopU [16,18,103,108,116,135,136,137,138,139,140,141,142,143,144,145,146,147,148,149,150] [256] (fun (k : Nat) => [(135, .int .i64 k), (16, .sl 256 [] 0 k 50)]) (fun k => []) (fun k => [(256, ⟨.ex, 50, dFrs (meansT w k), none⟩)]) (fun k => k ≤ w.a.owner.length) (fun k => w.a.owner.length - k) 0 ?_ (by omega) ?_
          ·
            rw [show dFrs (meansT w 0) = [] from rfl]
            refine cov_of rfl ?_ ?_ ?_ <;> simp only [covS, covL, push_cast, ↓brB_true, ↓brB_false, ↓reduceIte, zA, zB, zC, zD, zE, zF, zG, zH, zI, reduceCtorEq]
          · rintro k hk KL4 hL4
            have hml := meansT_len w k
            have hpl := payL_len w (T + 1)
            simp only [push_cast, ↓brB_true, ↓brB_false, ↓reduceIte, zA, zB, zC, zD, zE, zF, zG, zH, zI, reduceCtorEq]
            refine awp_seq' fun K hK => ?_
            refine awp_region tyOk tyPos [] rfl ?_
            all_goals simp only [push_cast, ↓brB_true, ↓brB_false, ↓reduceIte, zA, zB, zC, zD, zE, zF, zG, zH, zI, reduceCtorEq]
            all_goals repeat' (first | (apply brB_mk <;> (intro hg; (try simp only [push_cast] at hg))) | apply And.intro | (intro hg; (try simp only [push_cast] at hg)))
            all_goals first | exact gA | (exact getE_dII (by omega)) | (rw [hb2]; omega) | (rw [hb3]; omega) | (rw [hb4]; omega) | (rw [hb5]; omega) | (rw [Int.neg_neg]; have := hwst (by omega); omega) | (have h8 := hwr (by omega); have h7 := hed0 (by omega) (by omega); have h6 := hee0 (by omega) (by omega); omega) | (have h8 := hwr (by omega); have h7 := hedp (by omega); have h6 := hed (by omega); omega) | (have h9 := hto v (by omega) i (by omega); have h8 := hwr (by omega); omega) | (have h9 := hto v (by omega) 0 (by have := hwr (by omega); omega); omega) | skip
            all_goals first | (refine hK _ ?_; clear hK K) | (simp only [push_cast]; done)
            refine awp_seq' fun K14 hK14 => ?_
            refine awp_cond rfl (fun hc => ?_) (fun hc => ?_) <;> (try simp only [push_cast] at hc)
            ·
              refine awp_skip ?_
              (try simp only [AThen, ABlk, reduceIte, zF]); refine hK14 _ ?_
              refine awp_seq' fun K15 hK15 => ?_
              refine awp_block ?_
              refine awp_seq' fun K hK => ?_
              refine awp_region tyOk tyPos [] rfl ?_
              all_goals simp only [push_cast, ↓brB_true, ↓brB_false, ↓reduceIte, zA, zB, zC, zD, zE, zF, zG, zH, zI, reduceCtorEq]
              all_goals repeat' (first | (apply brB_mk <;> (intro hg; (try simp only [push_cast] at hg))) | apply And.intro | (intro hg; (try simp only [push_cast] at hg)))
              all_goals first | exact gA | (exact getE_dII (by omega)) | (rw [hb2]; omega) | (rw [hb3]; omega) | (rw [hb4]; omega) | (rw [hb5]; omega) | (rw [Int.neg_neg]; have := hwst (by omega); omega) | (have h8 := hwr (by omega); have h7 := hed0 (by omega) (by omega); have h6 := hee0 (by omega) (by omega); omega) | (have h8 := hwr (by omega); have h7 := hedp (by omega); have h6 := hed (by omega); omega) | (have h9 := hto v (by omega) i (by omega); have h8 := hwr (by omega); omega) | (have h9 := hto v (by omega) 0 (by have := hwr (by omega); omega); omega) | skip
              all_goals first | (refine hK _ ?_; clear hK K) | (simp only [push_cast]; done)
              refine awp_regionN false tyOk tyPos ?_ rfl ?_
              · kernel_rfl
              simp only [push_cast, ↓brB_true, ↓brB_false, ↓reduceIte, zA, zB, zC, zD, zE, zF, zG, zH, zI, reduceCtorEq]
              all_goals repeat' (first | (apply brB_mk <;> (intro hg; (try simp only [push_cast] at hg))) | (refine ⟨_, hNr k (by omega), ?_⟩; simp only [push_cast, ↓brB_true, ↓brB_false, ↓reduceIte, zA, zB, zC, zD, zE, zF, zG, zH, zI, reduceCtorEq]) | apply And.intro | (intro hg; (try simp only [push_cast] at hg)))
              all_goals first | exact gA | (exact getE_dII (by omega)) | (rw [hb2]; omega) | (rw [hb3]; omega) | (rw [hb4]; omega) | (rw [hb5]; omega) | (rw [Int.neg_neg]; have := hwst (by omega); omega) | (have h8 := hwr (by omega); have h7 := hed0 (by omega) (by omega); have h6 := hee0 (by omega) (by omega); omega) | (have h8 := hwr (by omega); have h7 := hedp (by omega); have h6 := hed (by omega); omega) | (have h9 := hto v (by omega) i (by omega); have h8 := hwr (by omega); omega) | (have h9 := hto v (by omega) 0 (by have := hwr (by omega); omega); omega) | skip
              (try simp only [AThen, ABlk, reduceIte, zF]); refine hK15 _ ?_
              refine awp_settle 50 16 (Nat.le_of_ble_eq_true rfl) ?_
              simp only [push_cast, ↓brB_true, ↓brB_false, ↓reduceIte, zA, zB, zC, zD, zE, zF, zG, zH, zI, reduceCtorEq]
              refine awp_region tyOk tyPos [] rfl ?_
              all_goals simp only [push_cast, ↓brB_true, ↓brB_false, ↓reduceIte, zA, zB, zC, zD, zE, zF, zG, zH, zI, reduceCtorEq]
              all_goals repeat' (first | (apply brB_mk <;> (intro hg; (try simp only [push_cast] at hg))) | apply And.intro | (intro hg; (try simp only [push_cast] at hg)))
              all_goals first | exact gA | (exact getE_dII (by omega)) | (rw [hb2]; omega) | (rw [hb3]; omega) | (rw [hb4]; omega) | (rw [hb5]; omega) | (rw [Int.neg_neg]; have := hwst (by omega); omega) | (have h8 := hwr (by omega); have h7 := hed0 (by omega) (by omega); have h6 := hee0 (by omega) (by omega); omega) | (have h8 := hwr (by omega); have h7 := hedp (by omega); have h6 := hed (by omega); omega) | (have h9 := hto v (by omega) i (by omega); have h8 := hwr (by omega); omega) | (have h9 := hto v (by omega) 0 (by have := hwr (by omega); omega); omega) | skip
              refine hL4 _ ⟨k + 1, by omega, by omega, ?_⟩
              (try rw [List.take_of_length_le (l := meansT w k) (by omega)])
              rw [meansT_s]
              refine cov_of rfl ?_ ?_ ?_ <;> simp only [covS, covL, push_cast, ↓brB_true, ↓brB_false, ↓reduceIte, zA, zB, zC, zD, zE, zF, zG, zH, zI, reduceCtorEq]
              all_goals (try rfl)
            ·
              refine awp_exit ?_
              have hkk : k = w.a.owner.length := by omega
              subst hkk
              (try simp only [AThen, ABlk, reduceIte, zF]); refine hK13 _ ?_
              refine awp_seq' fun K hK => ?_
              refine awp_region tyOk tyPos [] rfl ?_
              all_goals simp only [push_cast, ↓brB_true, ↓brB_false, ↓reduceIte, zA, zB, zC, zD, zE, zF, zG, zH, zI, reduceCtorEq]
              all_goals repeat' (first | (apply brB_mk <;> (intro hg; (try simp only [push_cast] at hg))) | apply And.intro | (intro hg; (try simp only [push_cast] at hg)))
              all_goals first | exact gA | (exact getE_dII (by omega)) | (rw [hb2]; omega) | (rw [hb3]; omega) | (rw [hb4]; omega) | (rw [hb5]; omega) | (rw [Int.neg_neg]; have := hwst (by omega); omega) | (have h8 := hwr (by omega); have h7 := hed0 (by omega) (by omega); have h6 := hee0 (by omega) (by omega); omega) | (have h8 := hwr (by omega); have h7 := hedp (by omega); have h6 := hed (by omega); omega) | (have h9 := hto v (by omega) i (by omega); have h8 := hwr (by omega); omega) | (have h9 := hto v (by omega) 0 (by have := hwr (by omega); omega); omega) | skip
              all_goals first | (refine hK _ ?_; clear hK K) | (simp only [push_cast]; done)
              refine awp_ret ?_
              (try simp only [AThen, ABlk])
              refine ⟨Or.inl rfl, ?_⟩
              simp only [RetOk, push_cast, ↓brB_true, ↓brB_false, ↓reduceIte, zA, zB, zC, zD, zE, zF, zG, zH, zI, reduceCtorEq]
              first | rfl | exact ⟨rfl, by rw [meansL_len]⟩ | (rw [meansL_len]; done)
end Go.Proofs.Ytdbecmmeifdafaa

namespace Go.Proofs.Ytdbecmmeifdafaa
open Nat renaming reduceMod → zA, reduceMul → zB, reduceDiv → zC, reduceAdd → zD, reduceSub → zE, reduceEqDiff → zF, reduceBEq → zG, reduceLT → zH, reduceLeDiff → zI
open Go.RowKit
set_option linter.unusedVariables false
set_option linter.unusedSimpArgs false

def fracB (f : Fr) : Bool := decide ((-1000000 ≤ f.num ∧ f.num ≤ 1000000) ∧ (1 ≤ f.den ∧ f.den ≤ 1000000) ∧ (Int.gcd f.num f.den : Int) = 1)
set_option maxRecDepth 20000 in
set_option maxHeartbeats 4000000 in
theorem isFrac_fn (f : Fr) : Fn Try.prog tyT 76 [.agg (dFr f)] [.c (.bool (fracB f))] := by
  have hC := fun h0 h1 => commonOf_fn (if -f.num > f.num then -f.num else f.num) f.den h0 h1
  rw [show Int.gcd (if -f.num > f.num then -f.num else f.num) f.den = Int.gcd f.num f.den from by rw [natAbs_max]; simp [Int.gcd]] at hC
  unfold dFr
  refine Fn_of (fn := Try.f76) (ts := [2]) Try.func76 (by kernel_rfl) rfl rfl (by rw [Try.ntmps76]; exact Nat.le_of_ble_eq_true rfl) rfl (by simp only [szA, List.mem_cons, List.not_mem_nil, or_false, forall_eq_or_imp, forall_eq, VT.cells, szL]; try decide) ?_
  rw [Try.ntmps76]
  simp only [push_cast, ↓brB_true, ↓brB_false, ↓reduceIte, zA, zB, zC, zD, zE, zF, zG, zH, zI, reduceCtorEq]
  refine awp_seq' fun K hK => ?_
  refine awp_region tyOk tyPos [] rfl ?_
  simp only [push_cast, ↓brB_true, ↓brB_false, ↓reduceIte, zA, zB, zC, zD, zE, zF, zG, zH, zI, reduceCtorEq]
  repeat' apply And.intro
  all_goals try exact gB
  all_goals first | (refine hK _ ?_; clear hK K) | (simp only [push_cast]; done)
  refine awp_seq' fun K hK => ?_
  refine awp_regionN false tyOk tyPos ?_ rfl ?_
  · kernel_rfl
  all_goals refine seqE_cut 28 fun K9 hK9 => ?_
  all_goals simp only [push_cast, ↓brB_true, ↓brB_false, ↓reduceIte, zA, zB, zC, zD, zE, zF, zG, zH, zI, reduceCtorEq]
  all_goals repeat' (first | (apply brB_mk <;> (intro hg; (try simp only [push_cast] at hg))) | (refine ⟨_, hC (by rw [natAbs_max]; omega) (by omega), ?_⟩; simp only [push_cast, ↓brB_true, ↓brB_false, ↓reduceIte, zA, zB, zC, zD, zE, zF, zG, zH, zI, reduceCtorEq]) | apply And.intro | (intro hg; (try simp only [push_cast] at hg)))
  all_goals try exact gA
  all_goals first | (refine hK9 _ ?_; clear hK9 K9) | (simp only [push_cast]; done)
  all_goals simp only [push_cast, ↓brB_true, ↓brB_false, ↓reduceIte, zA, zB, zC, zD, zE, zF, zG, zH, zI, reduceCtorEq]
  all_goals repeat' (first | (apply brB_mk <;> (intro hg; (try simp only [push_cast] at hg))) | (refine ⟨_, hC (by rw [natAbs_max]; omega) (by omega), ?_⟩; simp only [push_cast, ↓brB_true, ↓brB_false, ↓reduceIte, zA, zB, zC, zD, zE, zF, zG, zH, zI, reduceCtorEq]) | apply And.intro | (intro hg; (try simp only [push_cast] at hg)))
  all_goals try exact gA
  all_goals first | (refine hK _ ?_; clear hK K) | (simp only [push_cast]; done)
  all_goals (
      refine awp_ret ?_
      (try simp only [AThen, ABlk])
      refine ⟨Or.inl rfl, ?_⟩
      simp only [RetOk, push_cast, ↓brB_true, ↓brB_false, ↓reduceIte, zA, zB, zC, zD, zE, zF, zG, zH, zI, reduceCtorEq]
      unfold fracB
      first | exact decide_eq_decide.2 (by omega) | exact (decide_eq_true (by omega)).symm | exact (decide_eq_false (by omega)).symm)
end Go.Proofs.Ytdbecmmeifdafaa

namespace Go.Proofs.Ytdbecmmeifdafaa
open Nat renaming reduceMod → zA, reduceMul → zB, reduceDiv → zC, reduceAdd → zD, reduceSub → zE, reduceEqDiff → zF, reduceBEq → zG, reduceLT → zH, reduceLeDiff → zI
open Go.RowKit
set_option linter.unusedVariables false
set_option linter.unusedSimpArgs false

open MV (Gm)
theorem wmn_of {w : Wt} (h : meanB w = true) : WMn w := by
  have hw := meanB_ok h
  obtain ⟨h1, h2, h3, h4, h5, h6⟩ := weighted_facts hw
  have h8 : w.cost.length ≤ 8 := by unfold meanB at h; rw [Bool.and_eq_true, decide_eq_true_eq] at h; exact h.2
  exact ⟨wsh_of hw, by omega, fun v hv j hj => (h6 v hv).2.2.2 j (by rw [(h6 v hv).1]; exact hj)⟩
theorem gf_means {w : Wt} {v : Nat} (h : v < w.a.owner.length) : gf (meansL w) v = valF w v := by
  unfold gf meansL
  rw [List.getD_eq_getElem?_getD, List.getElem?_map, List.getElem?_range h]
  rfl
theorem frOf_frac {p q : Int} (hq : 1 ≤ q ∧ q ≤ 8) (hp : -8000 ≤ p ∧ p ≤ 8000) : fracB (frOf p q) = true ∧ (-8000 ≤ (frOf p q).num ∧ (frOf p q).num ≤ 8000) ∧ 1 ≤ (frOf p q).den ∧ (frOf p q).den ≤ 8 := by
  have hg := gcd_pos' p hq.1
  obtain ⟨a, ha⟩ := Int.gcd_dvd_left (a := p) (b := q)
  obtain ⟨b, hb⟩ := Int.gcd_dvd_right (a := p) (b := q)
  have hg1 : Int.gcd a b = 1 := by
    have h1 : Int.gcd (Int.gcd p q * a) (Int.gcd p q * b) = Int.gcd p q * Int.gcd a b := by
      rw [Int.gcd_mul_left]; simp
    rw [← ha, ← hb] at h1
    have h2 : Int.gcd p q * 1 = Int.gcd p q * Int.gcd a b := by omega
    exact (Nat.eq_of_mul_eq_mul_left (by omega) h2).symm
  have e1 : p.tdiv (Int.gcd p q) = a := by
    conv => lhs; rw [ha]
    have h9 : Int.gcd (Int.gcd p q * a) q = Int.gcd p q := by rw [← ha]
    rw [h9]
    exact Int.mul_tdiv_cancel_left _ (by omega)
  have e2 : q.tdiv (Int.gcd p q) = b := by
    have h9 : (Int.gcd p q : Int) * b = q := hb.symm
    rw [← h9]
    have h10 : (Int.gcd p ((Int.gcd p q : Int) * b) : Int) = Int.gcd p q := by rw [h9]
    rw [h10]
    exact Int.mul_tdiv_cancel_left _ (by omega)
  have b1 := tdiv_bd (B := 8000) (Int.gcd p q) hp
  have b2 := tdiv_bd (B := 8) (n := q) (Int.gcd p q) (by omega)
  have hb0 : 1 ≤ b := by
    rcases Int.lt_or_le b 1 with h | h
    · have : (Int.gcd p q : Int) * b ≤ 0 := Int.mul_nonpos_of_nonneg_of_nonpos (by omega) (by omega)
      omega
    · exact h
  rw [e1] at b1
  rw [e2] at b2
  have e : frOf p q = ⟨a, b⟩ := by unfold frOf; rw [e1, e2]
  rw [e]
  refine ⟨?_, b1, hb0, b2.2⟩
  unfold fracB
  refine decide_eq_true ⟨⟨?_, ?_⟩, ⟨?_, ?_⟩, ?_⟩ <;> simp only <;> omega
theorem valF_ok {w : Wt} (h : WMn w) {v : Nat} (hv : v < w.a.owner.length) : fracB (valF w v) = true ∧ (-8000 ≤ (valF w v).num ∧ (valF w v).num ≤ 8000) ∧ 1 ≤ (valF w v).den ∧ (valF w v).den ≤ 8 := by
  have h1 := Gm.val_ok h.game hv
  have hm := h.mW
  have hn := h.n8
  have h2 : ((gmW w).val w.a.owner.length v).2 * mostW w ≤ 8 * 1000 := Int.mul_le_mul (by omega) hm.2 (by omega) (by omega)
  exact frOf_frac (by omega) (by omega)
def lessF (x y : Fr) : Bool := decide (x.num * y.den < y.num * x.den)
def atB (w : Wt) (v : Int) (f : Fr) : Bool := meanB w && (decide (0 ≤ v ∧ v < w.a.owner.length) && (fracB f && !lessF (valF w v.toNat) f))
theorem atB_no1 {w : Wt} {v : Int} {f : Fr} (h : meanB w = false) : atB w v f = false := by unfold atB; rw [h]; rfl
theorem atB_no2 {w : Wt} {v : Int} {f : Fr} (h : ¬ (0 ≤ v ∧ v < w.a.owner.length)) : atB w v f = false := by unfold atB; rw [decide_eq_false h, Bool.false_and, Bool.and_false]
theorem atB_no3 {w : Wt} {v : Int} {f : Fr} (h : fracB f = false) : atB w v f = false := by unfold atB; rw [h, Bool.false_and, Bool.and_false, Bool.and_false]
theorem atB_yes {w : Wt} {v : Int} {f : Fr} (h1 : meanB w = true) (h2 : 0 ≤ v ∧ v < w.a.owner.length) (h3 : fracB f = true) : atB w v f = !lessF (valF w v.toNat) f := by unfold atB; rw [h1, decide_eq_true h2, h3]; rfl
theorem frac_rg {f : Fr} (h : fracB f = true) : (-1000000 ≤ f.num ∧ f.num ≤ 1000000) ∧ 1 ≤ f.den ∧ f.den ≤ 1000000 := by
  unfold fracB at h
  have := of_decide_eq_true h
  exact ⟨this.1, this.2.1⟩
def meansR (w : Wt) : List Fr := if meanB w then meansL w else []
theorem meansR_no {w : Wt} (h : meanB w = false) : meansR w = [] := by unfold meansR; rw [h]; rfl
theorem meansR_yes {w : Wt} (h : meanB w = true) : meansR w = meansL w := by unfold meansR; rw [h]; rfl
set_option maxRecDepth 20000 in
set_option maxHeartbeats 4000000 in
theorem fracLess_fn (x y : Fr) (hx : (-1000000 ≤ x.num ∧ x.num ≤ 1000000) ∧ 1 ≤ x.den ∧ x.den ≤ 1000000) (hy : (-1000000 ≤ y.num ∧ y.num ≤ 1000000) ∧ 1 ≤ y.den ∧ y.den ≤ 1000000) : Fn Try.prog tyT 77 [.agg (dFr x), .agg (dFr y)] [.c (.bool (lessF x y))] := by
  have h1 := mul_bd (x := x.num) (q := y.den) (X := 1000000) (Q := 1000000) hx.1 (by omega) (by omega) (by omega)
  have h2 := mul_bd (x := y.num) (q := x.den) (X := 1000000) (Q := 1000000) hy.1 (by omega) (by omega) (by omega)
  unfold dFr
  refine Fn_of (fn := Try.f77) (ts := [4]) Try.func77 (by kernel_rfl) rfl rfl (by rw [Try.ntmps77]; exact Nat.le_of_ble_eq_true rfl) rfl (by simp only [szA, List.mem_cons, List.not_mem_nil, or_false, forall_eq_or_imp, forall_eq, VT.cells, szL]; try decide) ?_
  rw [Try.ntmps77]
  simp only [push_cast, ↓brB_true, ↓brB_false, ↓reduceIte, zA, zB, zC, zD, zE, zF, zG, zH, zI, reduceCtorEq]
  refine awp_seq' fun K hK => ?_
  refine awp_region tyOk tyPos [] rfl ?_
  simp only [push_cast, ↓brB_true, ↓brB_false, ↓reduceIte, zA, zB, zC, zD, zE, zF, zG, zH, zI, reduceCtorEq]
  repeat' apply And.intro
  all_goals try exact gB
  all_goals first | (refine hK _ ?_; clear hK K) | (simp only [push_cast]; done)
  refine awp_seq' fun K hK => ?_
  refine awp_region tyOk tyPos [] rfl ?_
  simp only [push_cast, ↓brB_true, ↓brB_false, ↓reduceIte, zA, zB, zC, zD, zE, zF, zG, zH, zI, reduceCtorEq]
  repeat' apply And.intro
  all_goals try exact gB
  all_goals first | (refine hK _ ?_; clear hK K) | (simp only [push_cast]; done)
  refine awp_ret ?_
  (try simp only [AThen, ABlk])
  refine ⟨Or.inl rfl, ?_⟩
  simp only [RetOk, push_cast, ↓brB_true, ↓brB_false, ↓reduceIte, zA, zB, zC, zD, zE, zF, zG, zH, zI, reduceCtorEq]
  rfl
set_option maxRecDepth 20000 in
set_option maxHeartbeats 8000000 in
theorem AtLeastI_fn (w : Wt) (ha : w.Ln 1048576) (v : Int) (f : Fr) : Fn Try.prog tyT 31 [.agg (dWt w), .c (.int .i64 v), .agg (dFr f)] [.c (.bool (atB w v f))] := by
  have hA := isMean_fn w ha
  have hV := hasVertex_fn w.a v
  have hI := isFrac_fn f
  have hO := fun h => meanOf_fn w ha (wmn_of h)
  have hml := meansL_len w
  have hL := fun (h1 : meanB w = true) (h2 : v.toNat < w.a.owner.length) (h3 : fracB f = true) => fracLess_fn (gf (meansL w) v.toNat) f (by rw [gf_means h2]; have := valF_ok (wmn_of h1) h2; omega) (frac_rg h3)
  have hgm := fun h => gf_means (w := w) (v := v.toNat) h
  have hw8 := fun h => (wmn_of (w := w) h).n8
  unfold dAr at hV
  unfold dFr at hI hL ⊢
  unfold dWt at hA hO ⊢
  refine Fn_of (fn := Try.f31) (ts := [6]) Try.func31 (by kernel_rfl) rfl rfl (by rw [Try.ntmps31]; exact Nat.le_of_ble_eq_true rfl) rfl (by simp only [szA, List.mem_cons, List.not_mem_nil, or_false, forall_eq_or_imp, forall_eq, VT.cells, szL]; try decide) ?_
  rw [Try.ntmps31]
  simp only [push_cast, ↓brB_true, ↓brB_false, ↓reduceIte, zA, zB, zC, zD, zE, zF, zG, zH, zI, reduceCtorEq]
  refine awp_seq' fun K hK => ?_
  refine awp_region tyOk tyPos [] rfl ?_
  all_goals simp only [push_cast, ↓brB_true, ↓brB_false, ↓reduceIte, zA, zB, zC, zD, zE, zF, zG, zH, zI, reduceCtorEq]
  all_goals repeat' (first | (apply brB_mk <;> (intro hg; (try simp only [push_cast] at hg))) | apply And.intro | (intro hg; (try simp only [push_cast] at hg)))
  all_goals first | exact gA | decide | skip
  all_goals first | (refine hK _ ?_; clear hK K) | (simp only [push_cast]; done)
  refine awp_seq' fun K hK => ?_
  refine awp_regionD1 false tyOk tyPos tyMix ?_ rfl ?_
  · kernel_rfl
  intro E hE
  all_goals refine lexF_cut 2 (by decide) fun K9 hK9 => ?_
  all_goals simp only [push_cast, ↓brB_true, ↓brB_false, ↓reduceIte, zA, zB, zC, zD, zE, zF, zG, zH, zI, reduceCtorEq]
  all_goals repeat' (first | (apply brB_mk <;> (intro hg; (try simp only [push_cast] at hg))) | (refine ⟨_, hA, ?_⟩; simp only [push_cast, ↓brB_true, ↓brB_false, ↓reduceIte, zA, zB, zC, zD, zE, zF, zG, zH, zI, reduceCtorEq]) | apply And.intro | (intro hg; (try simp only [push_cast] at hg)))
  all_goals first | exact gA | decide | skip
  all_goals first | (refine hK9 _ _ ?_; clear hK9 K9) | (simp only [push_cast]; done)
  all_goals refine lexF_cut 5 (by decide) fun K9 hK9 => ?_
  all_goals simp only [push_cast, ↓brB_true, ↓brB_false, ↓reduceIte, zA, zB, zC, zD, zE, zF, zG, zH, zI, reduceCtorEq]
  all_goals repeat' (first | (apply brB_mk <;> (intro hg; (try simp only [push_cast] at hg))) | (refine ⟨_, hV, ?_⟩; simp only [push_cast, ↓brB_true, ↓brB_false, ↓reduceIte, zA, zB, zC, zD, zE, zF, zG, zH, zI, reduceCtorEq]) | apply And.intro | (intro hg; (try simp only [push_cast] at hg)))
  all_goals first | exact gA | decide | skip
  all_goals first | (refine hK9 _ _ ?_; clear hK9 K9) | (simp only [push_cast]; done)
  all_goals refine lexF_cut 4 (by decide) fun K9 hK9 => ?_
  all_goals simp only [push_cast, ↓brB_true, ↓brB_false, ↓reduceIte, zA, zB, zC, zD, zE, zF, zG, zH, zI, reduceCtorEq]
  all_goals repeat' (first | (apply brB_mk <;> (intro hg; (try simp only [push_cast] at hg))) | (refine ⟨_, hI, ?_⟩; simp only [push_cast, ↓brB_true, ↓brB_false, ↓reduceIte, zA, zB, zC, zD, zE, zF, zG, zH, zI, reduceCtorEq]) | apply And.intro | (intro hg; (try simp only [push_cast] at hg)))
  all_goals first | exact gA | decide | skip
  all_goals first | (refine hK9 _ _ ?_; clear hK9 K9) | (simp only [push_cast]; done)
  all_goals refine lexF_cut 4 (by decide) fun K9 hK9 => ?_
  all_goals simp only [push_cast, ↓brB_true, ↓brB_false, ↓reduceIte, zA, zB, zC, zD, zE, zF, zG, zH, zI, reduceCtorEq]
  all_goals repeat' (first | (apply brB_mk <;> (intro hg; (try simp only [push_cast] at hg))) | (refine ⟨_, hO (by with_reducible assumption), ?_⟩; simp only [push_cast, ↓brB_true, ↓brB_false, ↓reduceIte, zA, zB, zC, zD, zE, zF, zG, zH, zI, reduceCtorEq]) | apply And.intro | (intro hg; (try simp only [push_cast] at hg)))
  all_goals first | exact gA | decide | skip
  all_goals first | (refine hK9 _ _ ?_; clear hK9 K9) | (simp only [push_cast]; done)
  all_goals refine lexF_cut 5 (by decide) fun K9 hK9 => ?_
  all_goals simp only [push_cast, ↓brB_true, ↓brB_false, ↓reduceIte, zA, zB, zC, zD, zE, zF, zG, zH, zI, reduceCtorEq]
  all_goals repeat' (first | (apply brB_mk <;> (intro hg; (try simp only [push_cast] at hg))) | (refine ⟨_, hL (by with_reducible assumption) (by omega) (by with_reducible assumption), ?_⟩; simp only [push_cast, ↓brB_true, ↓brB_false, ↓reduceIte, zA, zB, zC, zD, zE, zF, zG, zH, zI, reduceCtorEq]) | apply And.intro | (intro hg; (try simp only [push_cast] at hg)))
  all_goals first | exact gA | decide | skip
  all_goals first | (refine hK9 _ _ ?_; clear hK9 K9) | (simp only [push_cast]; done)
  all_goals simp only [push_cast, ↓brB_true, ↓brB_false, ↓reduceIte, zA, zB, zC, zD, zE, zF, zG, zH, zI, reduceCtorEq]
  all_goals repeat' (first | (apply brB_mk <;> (intro hg; (try simp only [push_cast] at hg))) | (refine ⟨_, hA, ?_⟩; simp only [push_cast, ↓brB_true, ↓brB_false, ↓reduceIte, zA, zB, zC, zD, zE, zF, zG, zH, zI, reduceCtorEq]) | (refine ⟨_, hV, ?_⟩; simp only [push_cast, ↓brB_true, ↓brB_false, ↓reduceIte, zA, zB, zC, zD, zE, zF, zG, zH, zI, reduceCtorEq]) | (refine ⟨_, hI, ?_⟩; simp only [push_cast, ↓brB_true, ↓brB_false, ↓reduceIte, zA, zB, zC, zD, zE, zF, zG, zH, zI, reduceCtorEq]) | (refine ⟨_, hO (by with_reducible assumption), ?_⟩; simp only [push_cast, ↓brB_true, ↓brB_false, ↓reduceIte, zA, zB, zC, zD, zE, zF, zG, zH, zI, reduceCtorEq]) | (refine ⟨_, hL (by with_reducible assumption) (by omega) (by with_reducible assumption), ?_⟩; simp only [push_cast, ↓brB_true, ↓brB_false, ↓reduceIte, zA, zB, zC, zD, zE, zF, zG, zH, zI, reduceCtorEq]) | apply And.intro | (intro hg; (try simp only [push_cast] at hg)))
  all_goals first | exact gA | (refine hE _ _ ?_ ?_; kernel_rfl) | decide | skip
  all_goals clear hE E
  all_goals first | (refine hK _ ?_; clear hK K) | (simp only [push_cast]; done)
  all_goals (
      refine awp_ret ?_
      (try simp only [AThen, ABlk])
      refine ⟨Or.inl rfl, ?_⟩
      simp only [RetOk, push_cast, ↓brB_true, ↓brB_false, ↓reduceIte, zA, zB, zC, zD, zE, zF, zG, zH, zI, reduceCtorEq]
      all_goals first | exact (atB_no1 (by with_reducible assumption)).symm | exact (atB_no2 (by omega)).symm | exact (atB_no3 (by with_reducible assumption)).symm | (rw [atB_yes (by with_reducible assumption) (by omega) (by with_reducible assumption), ← hgm (by omega)]; done))
set_option maxRecDepth 20000 in
set_option maxHeartbeats 4000000 in
theorem MeanOfI_fn (w : Wt) (ha : w.Ln 1048576) : Fn Try.prog tyT 29 [.agg (dWt w)] [.c (.lst 50 (dFrs (meansR w)))] := by
  have hA := isMean_fn w ha
  have hO := fun h => meanOf_fn w ha (wmn_of h)
  unfold dWt at hA hO ⊢
  refine Fn_of (fn := Try.f29) (ts := [2]) Try.func29 (by kernel_rfl) rfl rfl (by rw [Try.ntmps29]; exact Nat.le_of_ble_eq_true rfl) rfl (by simp only [szA, List.mem_cons, List.not_mem_nil, or_false, forall_eq_or_imp, forall_eq, VT.cells, szL]; try decide) ?_
  rw [Try.ntmps29]
  simp only [push_cast, ↓brB_true, ↓brB_false, ↓reduceIte, zA, zB, zC, zD, zE, zF, zG, zH, zI, reduceCtorEq]
  refine awp_seq' fun K hK => ?_
  refine awp_region tyOk tyPos [] rfl ?_
  simp only [push_cast, ↓brB_true, ↓brB_false, ↓reduceIte, zA, zB, zC, zD, zE, zF, zG, zH, zI, reduceCtorEq]
  repeat' apply And.intro
  all_goals try exact gB
  all_goals first | (refine hK _ ?_; clear hK K) | (simp only [push_cast]; done)
  refine awp_seq' fun K1 hK1 => ?_
  refine awp_seq' fun K hK => ?_
  refine awp_region tyOk tyPos [] rfl ?_
  all_goals refine aops_cut 2 fun K9 hK9 => ?_
  all_goals simp only [push_cast, ↓brB_true, ↓brB_false, ↓reduceIte, zA, zB, zC, zD, zE, zF, zG, zH, zI, reduceCtorEq]
  all_goals repeat' (first | (apply brB_mk <;> (intro hg; (try simp only [push_cast] at hg))) | (refine ⟨_, hA, ?_⟩; simp only [push_cast, ↓brB_true, ↓brB_false, ↓reduceIte, zA, zB, zC, zD, zE, zF, zG, zH, zI, reduceCtorEq]) | apply And.intro | (intro hg; (try simp only [push_cast] at hg)))
  all_goals try exact gA
  all_goals first | (refine hK9 _ ?_; clear hK9 K9) | (simp only [push_cast]; done)
  all_goals simp only [push_cast, ↓brB_true, ↓brB_false, ↓reduceIte, zA, zB, zC, zD, zE, zF, zG, zH, zI, reduceCtorEq]
  all_goals repeat' (first | (apply brB_mk <;> (intro hg; (try simp only [push_cast] at hg))) | (refine ⟨_, hA, ?_⟩; simp only [push_cast, ↓brB_true, ↓brB_false, ↓reduceIte, zA, zB, zC, zD, zE, zF, zG, zH, zI, reduceCtorEq]) | apply And.intro | (intro hg; (try simp only [push_cast] at hg)))
  all_goals try exact gA
  all_goals first | (refine hK _ ?_; clear hK K) | (simp only [push_cast]; done)
  refine awp_cond rfl (fun hc => ?_) (fun hc => ?_) <;> (try simp only [push_cast] at hc)
  ·
    refine awp_seq' fun K hK => ?_
    refine awp_region tyOk tyPos [] rfl ?_
    simp only [push_cast, ↓brB_true, ↓brB_false, ↓reduceIte, zA, zB, zC, zD, zE, zF, zG, zH, zI, reduceCtorEq]
    repeat' apply And.intro
    all_goals try exact gB
    all_goals first | (refine hK _ ?_; clear hK K) | (simp only [push_cast]; done)
    refine awp_ret ?_
    (try simp only [AThen, ABlk])
    refine ⟨Or.inl rfl, ?_⟩
    simp only [RetOk, push_cast, ↓brB_true, ↓brB_false, ↓reduceIte, zA, zB, zC, zD, zE, zF, zG, zH, zI, reduceCtorEq]
    rw [meansR_no (by with_reducible assumption)]
    all_goals first | rfl | exact ⟨rfl, rfl⟩
  ·
    refine awp_skip ?_
    (try simp only [AThen, ABlk, reduceIte, zF]); refine hK1 _ ?_
    refine awp_seq' fun K hK => ?_
    refine awp_region tyOk tyPos [] rfl ?_
    all_goals refine aops_cut 2 fun K9 hK9 => ?_
    all_goals simp only [push_cast, ↓brB_true, ↓brB_false, ↓reduceIte, zA, zB, zC, zD, zE, zF, zG, zH, zI, reduceCtorEq]
    all_goals repeat' (first | (apply brB_mk <;> (intro hg; (try simp only [push_cast] at hg))) | (refine ⟨_, hO (by with_reducible assumption), ?_⟩; simp only [push_cast, ↓brB_true, ↓brB_false, ↓reduceIte, zA, zB, zC, zD, zE, zF, zG, zH, zI, reduceCtorEq]) | apply And.intro | (intro hg; (try simp only [push_cast] at hg)))
    all_goals try exact gA
    all_goals first | (refine hK9 _ ?_; clear hK9 K9) | (simp only [push_cast]; done)
    all_goals simp only [push_cast, ↓brB_true, ↓brB_false, ↓reduceIte, zA, zB, zC, zD, zE, zF, zG, zH, zI, reduceCtorEq]
    all_goals repeat' (first | (apply brB_mk <;> (intro hg; (try simp only [push_cast] at hg))) | (refine ⟨_, hO (by with_reducible assumption), ?_⟩; simp only [push_cast, ↓brB_true, ↓brB_false, ↓reduceIte, zA, zB, zC, zD, zE, zF, zG, zH, zI, reduceCtorEq]) | apply And.intro | (intro hg; (try simp only [push_cast] at hg)))
    all_goals try exact gA
    all_goals first | (refine hK _ ?_; clear hK K) | (simp only [push_cast]; done)
    refine awp_ret ?_
    (try simp only [AThen, ABlk])
    refine ⟨Or.inl rfl, ?_⟩
    simp only [RetOk, push_cast, ↓brB_true, ↓brB_false, ↓reduceIte, zA, zB, zC, zD, zE, zF, zG, zH, zI, reduceCtorEq]
    rw [meansR_yes (by with_reducible assumption)]
    all_goals first | rfl | exact ⟨rfl, rfl⟩
end Go.Proofs.Ytdbecmmeifdafaa

namespace Go.Proofs.Ytdbecmmeifdafaa
open Go.RowKit
set_option linter.unusedVariables false
set_option linter.unusedSimpArgs false

structure Pa where
  a : Ar
  prio : List Int
  deriving DecidableEq
structure Pa.Ln (B : Nat) (x : Pa) : Prop where
  a : x.a.Ln B
  prio : LnI B x.prio
end Go.Proofs.Ytdbecmmeifdafaa
