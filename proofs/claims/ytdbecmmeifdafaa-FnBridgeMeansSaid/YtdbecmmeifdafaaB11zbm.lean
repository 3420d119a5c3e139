/- the means of all vertices: the other side -/
import Derived.Test.YtdbecmmeifdafaaB10zbm
import Derived.Test.YtdbecmmeifdafaaB9zbm
import Derived.Test.YtdbecmmeifdafaaB4zbm
import Derived.Test.YtdbecmmeifdafaaB8zbm
import Derived.Test.YtdbecmmeifdafaaB5zbm
import Derived.Test.YtdbecmmeifdafaaB6zbm
namespace Go.Proofs.Ytdbecmmeifdafaa
open Nat renaming reduceMod → zA, reduceMul → zB, reduceDiv → zC, reduceAdd → zD, reduceSub → zE, reduceEqDiff → zF, reduceBEq → zG, reduceLT → zH, reduceLeDiff → zI
open Go.RowKit
set_option linter.unusedVariables false
set_option linter.unusedSimpArgs false

open MV (Gm)
theorem worst_bd {r : List Int} (h : 1 ≤ r.length) (hb : ∀ j, j < r.length → -1000 ≤ gi r j ∧ gi r j ≤ 1000) : -1000 ≤ worstI (-gi r 0) r ∧ worstI (-gi r 0) r ≤ 1000 := by
  have h0 := hb 0 (by omega)
  constructor
  · have := (worstI_iff.1 (Int.le_refl (worstI (-gi r 0) r))).1
    omega
  · refine worstI_iff.2 ⟨by omega, fun x hx => ?_⟩
    obtain ⟨j, hj, rfl⟩ := mem_gi hx
    have := hb j hj
    omega
set_option maxRecDepth 20000 in
set_option maxHeartbeats 16000000 in
theorem meanOf_fn (w : Wt) (ha : w.Ln 1048576) (hw : WMn w) : Fn Try.prog tyT 73 [.agg (dWt w)] [.c (.lst 50 (dFrs (meansL w)))] := by
  have hn1 := hw.sh.n1
  have hn8 := hw.n8
  have hcl := hw.sh.cl
  have hnl := hw.sh.nl
  have hno := ha.a.owner
  unfold LnI at hno
  have hr : ∀ v, (gl w.a.next v).length ≤ 1048576 := fun v => gl_le ha.a.next v
  have hcr : ∀ v, (gl w.cost v).length ≤ 1048576 := fun v => gl_le ha.cost v
  have hrow := hw.sh.row
  have hto := hw.sh.to
  have hc1 := hw.c1
  have hown := hw.sh.own
  have hmW := hw.mW
  have hb := nW_bd (n := w.a.owner.length) (W := mostW w) (by omega) (by omega) hmW.1 hmW.2
  obtain ⟨T, hT, hT2⟩ := steps_nat hw
  have hSz := size_fn w.a
  have hMx := fun k h => MaxM_fn (gl w.cost k) (by have := hrow k h; omega) (hcr k)
  have hMn := fun k h => Min_fn (gl w.cost k) (by have := hrow k h; omega) (hcr k) (fun j hj => hw.sh.bd k h j (by have := hrow k h; omega))
  have hm0 := hw.most
  have hb4 : (4 * w.a.owner.length * w.a.owner.length * w.a.owner.length * mostW w : Int) = T := by rw [hT]; ac_rfl
  have hb3 : (4 * w.a.owner.length * w.a.owner.length * w.a.owner.length : Int) = 4 * (w.a.owner.length * w.a.owner.length * w.a.owner.length) := by ac_rfl
  have hb2 : (4 * w.a.owner.length * w.a.owner.length : Int) = 4 * (w.a.owner.length * w.a.owner.length) := by ac_rfl
  have hb5 : (2 * w.a.owner.length * mostW w : Int) = 2 * (w.a.owner.length * mostW w) := by ac_rfl
  unfold dAr at hSz
  unfold dWt
  refine Fn_of (fn := Try.f73) (ts := [2]) Try.func73 (by kernel_rfl) rfl rfl (by rw [Try.ntmps73]; exact Nat.le_of_ble_eq_true rfl) rfl (by simp only [szA, List.mem_cons, List.not_mem_nil, or_false, forall_eq_or_imp, forall_eq, VT.cells, szL]; try decide) ?_
  rw [Try.ntmps73]
  simp only [push_cast, ↓brB_true, ↓brB_false, ↓reduceIte, zA, zB, zC, zD, zE, zF, zG, zH, zI, reduceCtorEq]
  refine awp_seq' fun K hK => ?_
  refine awp_region tyOk tyPos [] rfl ?_
  all_goals simp only [push_cast, ↓brB_true, ↓brB_false, ↓reduceIte, zA, zB, zC, zD, zE, zF, zG, zH, zI, reduceCtorEq]
  all_goals repeat' (first | (apply brB_mk <;> (intro hg; (try simp only [push_cast] at hg))) | apply And.intro | (intro hg; (try simp only [push_cast] at hg)))
  all_goals first | exact gA | (exact getE_dII (by omega)) | (rw [hb2]; omega) | (rw [hb3]; omega) | (rw [hb4]; omega) | (rw [hb5]; omega) | (rw [Int.neg_neg]; have := hwst (by omega); omega) | (have h8 := hwr (by omega); have h7 := hed0 (by omega) (by omega); have h6 := hee0 (by omega) (by omega); omega) | (have h8 := hwr (by omega); have h7 := hedp (by omega); have h6 := hed (by omega); omega) | (have h9 := hto v (by omega) i (by omega); have h8 := hwr (by omega); omega) | (have h9 := hto v (by omega) 0 (by have := hwr (by omega); omega); omega) | skip
  all_goals first | (refine hK _ ?_; clear hK K) | (simp only [push_cast]; done)
  refine awp_seq' fun K hK => ?_
  refine awp_region tyOk tyPos [] rfl ?_
  all_goals refine aops_cut 3 fun K9 hK9 => ?_
  all_goals simp only [push_cast, ↓brB_true, ↓brB_false, ↓reduceIte, zA, zB, zC, zD, zE, zF, zG, zH, zI, reduceCtorEq]
  all_goals repeat' (first | (apply brB_mk <;> (intro hg; (try simp only [push_cast] at hg))) | (refine ⟨_, hSz, ?_⟩; simp only [push_cast, ↓brB_true, ↓brB_false, ↓reduceIte, zA, zB, zC, zD, zE, zF, zG, zH, zI, reduceCtorEq]) | apply And.intro | (intro hg; (try simp only [push_cast] at hg)))
  all_goals first | exact gA | (exact getE_dII (by omega)) | (rw [hb2]; omega) | (rw [hb3]; omega) | (rw [hb4]; omega) | (rw [hb5]; omega) | (rw [Int.neg_neg]; have := hwst (by omega); omega) | (have h8 := hwr (by omega); have h7 := hed0 (by omega) (by omega); have h6 := hee0 (by omega) (by omega); omega) | (have h8 := hwr (by omega); have h7 := hedp (by omega); have h6 := hed (by omega); omega) | (have h9 := hto v (by omega) i (by omega); have h8 := hwr (by omega); omega) | (have h9 := hto v (by omega) 0 (by have := hwr (by omega); omega); omega) | skip
  all_goals first | (refine hK9 _ ?_; clear hK9 K9) | (simp only [push_cast]; done)
  all_goals simp only [push_cast, ↓brB_true, ↓brB_false, ↓reduceIte, zA, zB, zC, zD, zE, zF, zG, zH, zI, reduceCtorEq]
  all_goals repeat' (first | (apply brB_mk <;> (intro hg; (try simp only [push_cast] at hg))) | (refine ⟨_, hSz, ?_⟩; simp only [push_cast, ↓brB_true, ↓brB_false, ↓reduceIte, zA, zB, zC, zD, zE, zF, zG, zH, zI, reduceCtorEq]) | apply And.intro | (intro hg; (try simp only [push_cast] at hg)))
  all_goals first | exact gA | (exact getE_dII (by omega)) | (rw [hb2]; omega) | (rw [hb3]; omega) | (rw [hb4]; omega) | (rw [hb5]; omega) | (rw [Int.neg_neg]; have := hwst (by omega); omega) | (have h8 := hwr (by omega); have h7 := hed0 (by omega) (by omega); have h6 := hee0 (by omega) (by omega); omega) | (have h8 := hwr (by omega); have h7 := hedp (by omega); have h6 := hed (by omega); omega) | (have h9 := hto v (by omega) i (by omega); have h8 := hwr (by omega); omega) | (have h9 := hto v (by omega) 0 (by have := hwr (by omega); omega); omega) | skip
  all_goals first | (refine hK _ ?_; clear hK K) | (simp only [push_cast]; done)
  refine awp_seq' fun K hK => ?_
  refine awp_region tyOk tyPos [] rfl ?_
  all_goals simp only [push_cast, ↓brB_true, ↓brB_false, ↓reduceIte, zA, zB, zC, zD, zE, zF, zG, zH, zI, reduceCtorEq]
  all_goals repeat' (first | (apply brB_mk <;> (intro hg; (try simp only [push_cast] at hg))) | apply And.intro | (intro hg; (try simp only [push_cast] at hg)))
  all_goals first | exact gA | (exact getE_dII (by omega)) | (rw [hb2]; omega) | (rw [hb3]; omega) | (rw [hb4]; omega) | (rw [hb5]; omega) | (rw [Int.neg_neg]; have := hwst (by omega); omega) | (have h8 := hwr (by omega); have h7 := hed0 (by omega) (by omega); have h6 := hee0 (by omega) (by omega); omega) | (have h8 := hwr (by omega); have h7 := hedp (by omega); have h6 := hed (by omega); omega) | (have h9 := hto v (by omega) i (by omega); have h8 := hwr (by omega); omega) | (have h9 := hto v (by omega) 0 (by have := hwr (by omega); omega); omega) | skip
  all_goals first | (refine hK _ ?_; clear hK K) | (simp only [push_cast]; done)
  refine awp_seq' fun K1 hK1 => ?_
  refine awp_seq' fun K hK => ?_
  refine awp_region tyOk tyPos [] rfl ?_
  all_goals simp only [push_cast, ↓brB_true, ↓brB_false, ↓reduceIte, zA, zB, zC, zD, zE, zF, zG, zH, zI, reduceCtorEq]
  all_goals repeat' (first | (apply brB_mk <;> (intro hg; (try simp only [push_cast] at hg))) | apply And.intro | (intro hg; (try simp only [push_cast] at hg)))
  all_goals first | exact gA | (exact getE_dII (by omega)) | (rw [hb2]; omega) | (rw [hb3]; omega) | (rw [hb4]; omega) | (rw [hb5]; omega) | (rw [Int.neg_neg]; have := hwst (by omega); omega) | (have h8 := hwr (by omega); have h7 := hed0 (by omega) (by omega); have h6 := hee0 (by omega) (by omega); omega) | (have h8 := hwr (by omega); have h7 := hedp (by omega); have h6 := hed (by omega); omega) | (have h9 := hto v (by omega) i (by omega); have h8 := hwr (by omega); omega) | (have h9 := hto v (by omega) 0 (by have := hwr (by omega); omega); omega) | skip
  all_goals first | (refine hK _ ?_; clear hK K) | (simp only [push_cast]; done)
  refine awp_block ?_
  refine awp_loopU [4,6,25,26,27,28,29,30,31,32,33,34,35,36] [] (fun (k : Nat) => [(25, .int .i64 k), (4, .int .i64 (mostR 1 (w.cost.take k)))]) (fun k => []) (fun k => []) (fun k => k ≤ w.cost.length) (fun k => w.cost.length - k) 0 ?_ (by omega) ?_
  ·
    rw [List.take_zero, show mostR 1 [] = 1 from rfl]
    refine cov_of rfl ?_ ?_ ?_ <;> simp only [covS, covL, push_cast, ↓brB_true, ↓brB_false, ↓reduceIte, zA, zB, zC, zD, zE, zF, zG, zH, zI, reduceCtorEq]
  · rintro k hk KL0 hL0
    have hcv := hcr k
    have hwst : k < w.cost.length → _ := fun h => worst_bd (r := gl w.cost k) (by have := hrow k (by omega); omega) (fun j hj => hc1 k (by omega) j (by have := hrow k (by omega); omega))
    simp only [push_cast, ↓brB_true, ↓brB_false, ↓reduceIte, zA, zB, zC, zD, zE, zF, zG, zH, zI, reduceCtorEq]
    refine awp_seq' fun K hK => ?_
    refine awp_region tyOk tyPos [] rfl ?_
    all_goals simp only [push_cast, ↓brB_true, ↓brB_false, ↓reduceIte, zA, zB, zC, zD, zE, zF, zG, zH, zI, reduceCtorEq]
    all_goals repeat' (first | (apply brB_mk <;> (intro hg; (try simp only [push_cast] at hg))) | apply And.intro | (intro hg; (try simp only [push_cast] at hg)))
    all_goals first | exact gA | (exact getE_dII (by omega)) | (rw [hb2]; omega) | (rw [hb3]; omega) | (rw [hb4]; omega) | (rw [hb5]; omega) | (rw [Int.neg_neg]; have := hwst (by omega); omega) | (have h8 := hwr (by omega); have h7 := hed0 (by omega) (by omega); have h6 := hee0 (by omega) (by omega); omega) | (have h8 := hwr (by omega); have h7 := hedp (by omega); have h6 := hed (by omega); omega) | (have h9 := hto v (by omega) i (by omega); have h8 := hwr (by omega); omega) | (have h9 := hto v (by omega) 0 (by have := hwr (by omega); omega); omega) | skip
    all_goals first | (refine hK _ ?_; clear hK K) | (simp only [push_cast]; done)
    refine awp_seq' fun K2 hK2 => ?_
    refine awp_cond rfl (fun hc => ?_) (fun hc => ?_) <;> (try simp only [push_cast] at hc)
    ·
      refine awp_skip ?_
      (try simp only [AThen, ABlk, reduceIte, zF]); refine hK2 _ ?_
      refine awp_seq' fun K3 hK3 => ?_
      refine awp_block ?_
      refine awp_seq' fun K hK => ?_
      refine awp_region tyOk tyPos [] rfl ?_
      all_goals simp only [push_cast, ↓brB_true, ↓brB_false, ↓reduceIte, zA, zB, zC, zD, zE, zF, zG, zH, zI, reduceCtorEq]
      all_goals repeat' (first | (apply brB_mk <;> (intro hg; (try simp only [push_cast] at hg))) | apply And.intro | (intro hg; (try simp only [push_cast] at hg)))
      all_goals first | exact gA | (exact getE_dII (by omega)) | (rw [hb2]; omega) | (rw [hb3]; omega) | (rw [hb4]; omega) | (rw [hb5]; omega) | (rw [Int.neg_neg]; have := hwst (by omega); omega) | (have h8 := hwr (by omega); have h7 := hed0 (by omega) (by omega); have h6 := hee0 (by omega) (by omega); omega) | (have h8 := hwr (by omega); have h7 := hedp (by omega); have h6 := hed (by omega); omega) | (have h9 := hto v (by omega) i (by omega); have h8 := hwr (by omega); omega) | (have h9 := hto v (by omega) 0 (by have := hwr (by omega); omega); omega) | skip
      all_goals first | (refine hK _ ?_; clear hK K) | (simp only [push_cast]; done)
      refine awp_region tyOk tyPos [] rfl ?_
      all_goals refine aops_cut 3 fun K9 hK9 => ?_
      all_goals simp only [push_cast, ↓brB_true, ↓brB_false, ↓reduceIte, zA, zB, zC, zD, zE, zF, zG, zH, zI, reduceCtorEq]
      all_goals repeat' (first | (apply brB_mk <;> (intro hg; (try simp only [push_cast] at hg))) | (refine ⟨_, hMx k (by omega), ?_⟩; simp only [push_cast, ↓brB_true, ↓brB_false, ↓reduceIte, zA, zB, zC, zD, zE, zF, zG, zH, zI, reduceCtorEq]) | apply And.intro | (intro hg; (try simp only [push_cast] at hg)))
      all_goals first | exact gA | (exact getE_dII (by omega)) | (rw [hb2]; omega) | (rw [hb3]; omega) | (rw [hb4]; omega) | (rw [hb5]; omega) | (rw [Int.neg_neg]; have := hwst (by omega); omega) | (have h8 := hwr (by omega); have h7 := hed0 (by omega) (by omega); have h6 := hee0 (by omega) (by omega); omega) | (have h8 := hwr (by omega); have h7 := hedp (by omega); have h6 := hed (by omega); omega) | (have h9 := hto v (by omega) i (by omega); have h8 := hwr (by omega); omega) | (have h9 := hto v (by omega) 0 (by have := hwr (by omega); omega); omega) | skip
      all_goals first | (refine hK9 _ ?_; clear hK9 K9) | (simp only [push_cast]; done)
      all_goals refine aops_cut 2 fun K9 hK9 => ?_
      all_goals simp only [push_cast, ↓brB_true, ↓brB_false, ↓reduceIte, zA, zB, zC, zD, zE, zF, zG, zH, zI, reduceCtorEq]
      all_goals repeat' (first | (apply brB_mk <;> (intro hg; (try simp only [push_cast] at hg))) | (refine ⟨_, hMn k (by omega), ?_⟩; simp only [push_cast, ↓brB_true, ↓brB_false, ↓reduceIte, zA, zB, zC, zD, zE, zF, zG, zH, zI, reduceCtorEq]) | apply And.intro | (intro hg; (try simp only [push_cast] at hg)))
      all_goals first | exact gA | (exact getE_dII (by omega)) | (rw [hb2]; omega) | (rw [hb3]; omega) | (rw [hb4]; omega) | (rw [hb5]; omega) | (rw [Int.neg_neg]; have := hwst (by omega); omega) | (have h8 := hwr (by omega); have h7 := hed0 (by omega) (by omega); have h6 := hee0 (by omega) (by omega); omega) | (have h8 := hwr (by omega); have h7 := hedp (by omega); have h6 := hed (by omega); omega) | (have h9 := hto v (by omega) i (by omega); have h8 := hwr (by omega); omega) | (have h9 := hto v (by omega) 0 (by have := hwr (by omega); omega); omega) | skip
      all_goals first | (refine hK9 _ ?_; clear hK9 K9) | (simp only [push_cast]; done)
      all_goals simp only [push_cast, ↓brB_true, ↓brB_false, ↓reduceIte, zA, zB, zC, zD, zE, zF, zG, zH, zI, reduceCtorEq]
      all_goals repeat' (first | (apply brB_mk <;> (intro hg; (try simp only [push_cast] at hg))) | (refine ⟨_, hMx k (by omega), ?_⟩; simp only [push_cast, ↓brB_true, ↓brB_false, ↓reduceIte, zA, zB, zC, zD, zE, zF, zG, zH, zI, reduceCtorEq]) | (refine ⟨_, hMn k (by omega), ?_⟩; simp only [push_cast, ↓brB_true, ↓brB_false, ↓reduceIte, zA, zB, zC, zD, zE, zF, zG, zH, zI, reduceCtorEq]) | apply And.intro | (intro hg; (try simp only [push_cast] at hg)))
      all_goals first | exact gA | (exact getE_dII (by omega)) | (rw [hb2]; omega) | (rw [hb3]; omega) | (rw [hb4]; omega) | (rw [hb5]; omega) | (rw [Int.neg_neg]; have := hwst (by omega); omega) | (have h8 := hwr (by omega); have h7 := hed0 (by omega) (by omega); have h6 := hee0 (by omega) (by omega); omega) | (have h8 := hwr (by omega); have h7 := hedp (by omega); have h6 := hed (by omega); omega) | (have h9 := hto v (by omega) i (by omega); have h8 := hwr (by omega); omega) | (have h9 := hto v (by omega) 0 (by have := hwr (by omega); omega); omega) | skip
      (try simp only [AThen, ABlk, reduceIte, zF]); refine hK3 _ ?_
      refine awp_region tyOk tyPos [] rfl ?_
      all_goals simp only [push_cast, ↓brB_true, ↓brB_false, ↓reduceIte, zA, zB, zC, zD, zE, zF, zG, zH, zI, reduceCtorEq]
      all_goals repeat' (first | (apply brB_mk <;> (intro hg; (try simp only [push_cast] at hg))) | apply And.intro | (intro hg; (try simp only [push_cast] at hg)))
      all_goals first | exact gA | (exact getE_dII (by omega)) | (rw [hb2]; omega) | (rw [hb3]; omega) | (rw [hb4]; omega) | (rw [hb5]; omega) | (rw [Int.neg_neg]; have := hwst (by omega); omega) | (have h8 := hwr (by omega); have h7 := hed0 (by omega) (by omega); have h6 := hee0 (by omega) (by omega); omega) | (have h8 := hwr (by omega); have h7 := hedp (by omega); have h6 := hed (by omega); omega) | (have h9 := hto v (by omega) i (by omega); have h8 := hwr (by omega); omega) | (have h9 := hto v (by omega) 0 (by have := hwr (by omega); omega); omega) | skip
      refine hL0 _ ⟨k + 1, by omega, by omega, ?_⟩
      rw [Int.neg_neg, most3 (by have := hrow k (by omega); omega), mostR_take (by omega)]
      refine cov_of rfl ?_ ?_ ?_ <;> simp only [covS, covL, push_cast, ↓brB_true, ↓brB_false, ↓reduceIte, zA, zB, zC, zD, zE, zF, zG, zH, zI, reduceCtorEq]
    ·
      refine awp_exit ?_
      have hkk : k = w.cost.length := by omega
      subst hkk
      rw [List.take_length, show mostR 1 w.cost = mostW w from rfl]
      (try simp only [AThen, ABlk, reduceIte, zF]); refine hK1 _ ?_
      refine awp_seq' fun K hK => ?_
      refine awp_region tyOk tyPos [] rfl ?_
      all_goals simp only [push_cast, ↓brB_true, ↓brB_false, ↓reduceIte, zA, zB, zC, zD, zE, zF, zG, zH, zI, reduceCtorEq]
      all_goals repeat' (first | (apply brB_mk <;> (intro hg; (try simp only [push_cast] at hg))) | apply And.intro | (intro hg; (try simp only [push_cast] at hg)))
      all_goals first | exact gA | (exact getE_dII (by omega)) | (rw [hb2]; omega) | (rw [hb3]; omega) | (rw [hb4]; omega) | (rw [hb5]; omega) | (rw [Int.neg_neg]; have := hwst (by omega); omega) | (have h8 := hwr (by omega); have h7 := hed0 (by omega) (by omega); have h6 := hee0 (by omega) (by omega); omega) | (have h8 := hwr (by omega); have h7 := hedp (by omega); have h6 := hed (by omega); omega) | (have h9 := hto v (by omega) i (by omega); have h8 := hwr (by omega); omega) | (have h9 := hto v (by omega) 0 (by have := hwr (by omega); omega); omega) | skip
      all_goals first | (refine hK _ ?_; clear hK K) | (simp only [push_cast]; done)
      rw [hb4]
      refine awp_seq' fun K hK => ?_
      refine awp_region tyOk tyPos [] rfl ?_
      all_goals simp only [push_cast, ↓brB_true, ↓brB_false, ↓reduceIte, zA, zB, zC, zD, zE, zF, zG, zH, zI, reduceCtorEq]
      all_goals repeat' (first | (apply brB_mk <;> (intro hg; (try simp only [push_cast] at hg))) | apply And.intro | (intro hg; (try simp only [push_cast] at hg)))
      all_goals first | exact gA | (exact getE_dII (by omega)) | (rw [hb2]; omega) | (rw [hb3]; omega) | (rw [hb4]; omega) | (rw [hb5]; omega) | (rw [Int.neg_neg]; have := hwst (by omega); omega) | (have h8 := hwr (by omega); have h7 := hed0 (by omega) (by omega); have h6 := hee0 (by omega) (by omega); omega) | (have h8 := hwr (by omega); have h7 := hedp (by omega); have h6 := hed (by omega); omega) | (have h9 := hto v (by omega) i (by omega); have h8 := hwr (by omega); omega) | (have h9 := hto v (by omega) 0 (by have := hwr (by omega); omega); omega) | skip
      all_goals first | (refine hK _ ?_; clear hK K) | (simp only [push_cast]; done)
      refine awp_seq' fun K hK => ?_
      refine awp_region tyOk tyPos [] rfl ?_
      all_goals simp only [push_cast, ↓brB_true, ↓brB_false, ↓reduceIte, zA, zB, zC, zD, zE, zF, zG, zH, zI, reduceCtorEq]
      all_goals repeat' (first | (apply brB_mk <;> (intro hg; (try simp only [push_cast] at hg))) | apply And.intro | (intro hg; (try simp only [push_cast] at hg)))
      all_goals first | exact gA | (exact getE_dII (by omega)) | (rw [hb2]; omega) | (rw [hb3]; omega) | (rw [hb4]; omega) | (rw [hb5]; omega) | (rw [Int.neg_neg]; have := hwst (by omega); omega) | (have h8 := hwr (by omega); have h7 := hed0 (by omega) (by omega); have h6 := hee0 (by omega) (by omega); omega) | (have h8 := hwr (by omega); have h7 := hedp (by omega); have h6 := hed (by omega); omega) | (have h9 := hto v (by omega) i (by omega); have h8 := hwr (by omega); omega) | (have h9 := hto v (by omega) 0 (by have := hwr (by omega); omega); omega) | skip
      all_goals first | (refine hK _ ?_; clear hK K) | (simp only [push_cast]; done)
      refine awp_seq' fun K4 hK4 => ?_
      refine awp_seq' fun K hK => ?_
      refine awp_region tyOk tyPos [] rfl ?_
      all_goals simp only [push_cast, ↓brB_true, ↓brB_false, ↓reduceIte, zA, zB, zC, zD, zE, zF, zG, zH, zI, reduceCtorEq]
      all_goals repeat' (first | (apply brB_mk <;> (intro hg; (try simp only [push_cast] at hg))) | apply And.intro | (intro hg; (try simp only [push_cast] at hg)))
      all_goals first | exact gA | (exact getE_dII (by omega)) | (rw [hb2]; omega) | (rw [hb3]; omega) | (rw [hb4]; omega) | (rw [hb5]; omega) | (rw [Int.neg_neg]; have := hwst (by omega); omega) | (have h8 := hwr (by omega); have h7 := hed0 (by omega) (by omega); have h6 := hee0 (by omega) (by omega); omega) | (have h8 := hwr (by omega); have h7 := hedp (by omega); have h6 := hed (by omega); omega) | (have h9 := hto v (by omega) i (by omega); have h8 := hwr (by omega); omega) | (have h9 := hto v (by omega) 0 (by have := hwr (by omega); omega); omega) | skip
      all_goals first | (refine hK _ ?_; clear hK K) | (simp only [push_cast]; done)
      refine awp_block ?_
      refine awp_loopU [8,9,10,11,12,13,14,15,51,52,53,54,55,56,57,58,59,60,61,62,63,64,65,66,67,68,69,70,71,72,73,74,75,76,77,78,79,80,81,82,83,84,85,86,87,88,89,90,91,92,93,94,95,96,97,98,99,100,101,102,103,104,105,106,107,108,109,110,111,112,113,114,115,116,117,118,119,120,121,122,123,124,125,126,127,128,129,130,131] [] (fun (u : Nat × List Int) => [(51, .int .i64 u.1), (8, .sl 128 [] 0 w.a.owner.length 2), (9, .sl 144 [] 0 w.a.owner.length 2)]) (fun u => []) (fun u => [(128, ⟨.ex, 2, dI (payL w u.1), none⟩), (144, ⟨.ex, 2, dI u.2, none⟩)]) (fun u => u.1 ≤ T + 1 ∧ u.2.length = w.a.owner.length) (fun u => T + 1 - u.1) (0, List.replicate w.a.owner.length 0) ?_ ⟨by omega, by simp⟩ ?_
      ·
        rw [payL_0]
        refine cov_of rfl ?_ ?_ ?_ <;> simp only [covS, covL, push_cast, ↓brB_true, ↓brB_false, ↓reduceIte, zA, zB, zC, zD, zE, zF, zG, zH, zI, reduceCtorEq]
      · rintro ⟨k, z0⟩ ⟨hk, hz0⟩ KL1 hL1
        simp only at hk hz0
        have hpl := payL_len w k
        simp only [push_cast, ↓brB_true, ↓brB_false, ↓reduceIte, zA, zB, zC, zD, zE, zF, zG, zH, zI, reduceCtorEq]
        refine awp_seq' fun K hK => ?_
        refine awp_region tyOk tyPos [] rfl ?_
        all_goals simp only [push_cast, ↓brB_true, ↓brB_false, ↓reduceIte, zA, zB, zC, zD, zE, zF, zG, zH, zI, reduceCtorEq]
        all_goals repeat' (first | (apply brB_mk <;> (intro hg; (try simp only [push_cast] at hg))) | apply And.intro | (intro hg; (try simp only [push_cast] at hg)))
        all_goals first | exact gA | (exact getE_dII (by omega)) | (rw [hb2]; omega) | (rw [hb3]; omega) | (rw [hb4]; omega) | (rw [hb5]; omega) | (rw [Int.neg_neg]; have := hwst (by omega); omega) | (have h8 := hwr (by omega); have h7 := hed0 (by omega) (by omega); have h6 := hee0 (by omega) (by omega); omega) | (have h8 := hwr (by omega); have h7 := hedp (by omega); have h6 := hed (by omega); omega) | (have h9 := hto v (by omega) i (by omega); have h8 := hwr (by omega); omega) | (have h9 := hto v (by omega) 0 (by have := hwr (by omega); omega); omega) | skip
        all_goals first | (refine hK _ ?_; clear hK K) | (simp only [push_cast]; done)
        refine awp_seq' fun K5 hK5 => ?_
        refine awp_cond rfl (fun hc => ?_) (fun hc => ?_) <;> (try simp only [push_cast] at hc)
        ·
          refine awp_skip ?_
          (try simp only [AThen, ABlk, reduceIte, zF]); refine hK5 _ ?_
          refine awp_seq' fun K6 hK6 => ?_
          refine awp_block ?_
          refine awp_seq' fun K7 hK7 => ?_
          refine awp_seq' fun K hK => ?_
          refine awp_region tyOk tyPos [] rfl ?_
          all_goals simp only [push_cast, ↓brB_true, ↓brB_false, ↓reduceIte, zA, zB, zC, zD, zE, zF, zG, zH, zI, reduceCtorEq]
          all_goals repeat' (first | (apply brB_mk <;> (intro hg; (try simp only [push_cast] at hg))) | apply And.intro | (intro hg; (try simp only [push_cast] at hg)))
          all_goals first | exact gA | (exact getE_dII (by omega)) | (rw [hb2]; omega) | (rw [hb3]; omega) | (rw [hb4]; omega) | (rw [hb5]; omega) | (rw [Int.neg_neg]; have := hwst (by omega); omega) | (have h8 := hwr (by omega); have h7 := hed0 (by omega) (by omega); have h6 := hee0 (by omega) (by omega); omega) | (have h8 := hwr (by omega); have h7 := hedp (by omega); have h6 := hed (by omega); omega) | (have h9 := hto v (by omega) i (by omega); have h8 := hwr (by omega); omega) | (have h9 := hto v (by omega) 0 (by have := hwr (by omega); omega); omega) | skip
          all_goals first | (refine hK _ ?_; clear hK K) | (simp only [push_cast]; done)
          refine awp_block ?_
          refine awp_loopU [10,11,12,13,14,15,57,58,59,60,61,62,63,64,65,66,67,68,69,70,71,72,73,74,75,76,77,78,79,80,81,82,83,84,85,86,87,88,89,90,91,92,93,94,95,96,97,98,99,100,101,102,103,104,105,106,107,108,109,110,111,112,113,114,115,116,117,118,119,120,121,122,123,124,125,126,127,128] [144] (fun (u : Nat × List Int) => [(57, .int .i64 u.1)]) (fun u => []) (fun u => [(144, ⟨.ex, 2, dI u.2, none⟩)]) (fun u => u.1 ≤ w.a.owner.length ∧ u.2.length = w.a.owner.length ∧ ∀ u9, u9 < u.1 → gi u.2 u9 = (gmW w).pay (k + 1) u9) (fun u => w.a.owner.length - u.1) (0, z0) ?_ ⟨by omega, by omega, fun u9 h => by simp only at h; omega⟩ ?_
          ·
            refine cov_of rfl ?_ ?_ ?_ <;> simp only [covS, covL, push_cast, ↓brB_true, ↓brB_false, ↓reduceIte, zA, zB, zC, zD, zE, zF, zG, zH, zI, reduceCtorEq]
          · rintro ⟨v, z⟩ ⟨hv, hz, hall⟩ KL2 hL2
            simp only at hv hz hall
            have hwr : v < w.a.owner.length → _ := fun h => hrow v h
            have hwo : v < w.a.owner.length → _ := fun h => hown v h
            have hrv := hr v
            have hcv := hcr v
            have hed0 : v < w.a.owner.length → 0 < (gl w.a.next v).length → gi (payL w k) (gi (gl w.a.next v) 0).toNat + gi (gl w.cost v) 0 = edgeV w k v 0 := fun h0 h => by unfold edgeV; rw [payL_gi (by have := hto v h0 0 h; omega), Int.add_comm]
            have hee0 : v < w.a.owner.length → 0 < (gl w.a.next v).length → _ := fun h0 h => edge_bd hw (k := k) h0 h (by omega)
            simp only [push_cast, ↓brB_true, ↓brB_false, ↓reduceIte, zA, zB, zC, zD, zE, zF, zG, zH, zI, reduceCtorEq]
            refine awp_seq' fun K hK => ?_
            refine awp_region tyOk tyPos [] rfl ?_
            all_goals simp only [push_cast, ↓brB_true, ↓brB_false, ↓reduceIte, zA, zB, zC, zD, zE, zF, zG, zH, zI, reduceCtorEq]
            all_goals repeat' (first | (apply brB_mk <;> (intro hg; (try simp only [push_cast] at hg))) | apply And.intro | (intro hg; (try simp only [push_cast] at hg)))
            all_goals first | exact gA | (exact getE_dII (by omega)) | (rw [hb2]; omega) | (rw [hb3]; omega) | (rw [hb4]; omega) | (rw [hb5]; omega) | (rw [Int.neg_neg]; have := hwst (by omega); omega) | (have h8 := hwr (by omega); have h7 := hed0 (by omega) (by omega); have h6 := hee0 (by omega) (by omega); omega) | (have h8 := hwr (by omega); have h7 := hedp (by omega); have h6 := hed (by omega); omega) | (have h9 := hto v (by omega) i (by omega); have h8 := hwr (by omega); omega) | (have h9 := hto v (by omega) 0 (by have := hwr (by omega); omega); omega) | skip
            all_goals first | (refine hK _ ?_; clear hK K) | (simp only [push_cast]; done)
            refine awp_seq' fun K8 hK8 => ?_
            refine awp_cond rfl (fun hc => ?_) (fun hc => ?_) <;> (try simp only [push_cast] at hc)
            ·
              refine awp_skip ?_
              (try simp only [AThen, ABlk, reduceIte, zF]); refine hK8 _ ?_
              refine awp_seq' fun K9 hK9 => ?_
              refine awp_block ?_
              refine awp_seq' fun K hK => ?_
              refine awp_region tyOk tyPos [] rfl ?_
              all_goals simp only [push_cast, ↓brB_true, ↓brB_false, ↓reduceIte, zA, zB, zC, zD, zE, zF, zG, zH, zI, reduceCtorEq]
              all_goals repeat' (first | (apply brB_mk <;> (intro hg; (try simp only [push_cast] at hg))) | apply And.intro | (intro hg; (try simp only [push_cast] at hg)))
              all_goals first | exact gA | (exact getE_dII (by omega)) | (rw [hb2]; omega) | (rw [hb3]; omega) | (rw [hb4]; omega) | (rw [hb5]; omega) | (rw [Int.neg_neg]; have := hwst (by omega); omega) | (have h8 := hwr (by omega); have h7 := hed0 (by omega) (by omega); have h6 := hee0 (by omega) (by omega); omega) | (have h8 := hwr (by omega); have h7 := hedp (by omega); have h6 := hed (by omega); omega) | (have h9 := hto v (by omega) i (by omega); have h8 := hwr (by omega); omega) | (have h9 := hto v (by omega) 0 (by have := hwr (by omega); omega); omega) | skip
              all_goals first | (refine hK _ ?_; clear hK K) | (simp only [push_cast]; done)
              refine awp_seq' fun K hK => ?_
              refine awp_regionD1 false tyOk tyPos tyMix ?_ rfl ?_
              · kernel_rfl
              intro E hE
              all_goals simp only [push_cast, ↓brB_true, ↓brB_false, ↓reduceIte, zA, zB, zC, zD, zE, zF, zG, zH, zI, reduceCtorEq]
              all_goals repeat' (first | (apply brB_mk <;> (intro hg; (try simp only [push_cast] at hg))) | apply And.intro | (intro hg; (try simp only [push_cast] at hg)))
              all_goals first | exact gA | (refine hE _ _ ?_ ?_; kernel_rfl) | (exact getE_dII (by omega)) | (rw [hb2]; omega) | (rw [hb3]; omega) | (rw [hb4]; omega) | (rw [hb5]; omega) | (rw [Int.neg_neg]; have := hwst (by omega); omega) | (have h8 := hwr (by omega); have h7 := hed0 (by omega) (by omega); have h6 := hee0 (by omega) (by omega); omega) | (have h8 := hwr (by omega); have h7 := hedp (by omega); have h6 := hed (by omega); omega) | (have h9 := hto v (by omega) i (by omega); have h8 := hwr (by omega); omega) | (have h9 := hto v (by omega) 0 (by have := hwr (by omega); omega); omega) | skip
              all_goals clear hE E
              all_goals first | (refine hK _ ?_; clear hK K) | (simp only [push_cast]; done)
              refine awp_seq' fun K10 hK10 => ?_
              rw [hed0 (by omega) (by have := hwr (by omega); omega)]
              refine awp_seq' fun K hK => ?_
              refine awp_region tyOk tyPos [] rfl ?_
              all_goals simp only [push_cast, ↓brB_true, ↓brB_false, ↓reduceIte, zA, zB, zC, zD, zE, zF, zG, zH, zI, reduceCtorEq]
              all_goals repeat' (first | (apply brB_mk <;> (intro hg; (try simp only [push_cast] at hg))) | apply And.intro | (intro hg; (try simp only [push_cast] at hg)))
              all_goals first | exact gA | (exact getE_dII (by omega)) | (rw [hb2]; omega) | (rw [hb3]; omega) | (rw [hb4]; omega) | (rw [hb5]; omega) | (rw [Int.neg_neg]; have := hwst (by omega); omega) | (have h8 := hwr (by omega); have h7 := hed0 (by omega) (by omega); have h6 := hee0 (by omega) (by omega); omega) | (have h8 := hwr (by omega); have h7 := hedp (by omega); have h6 := hed (by omega); omega) | (have h9 := hto v (by omega) i (by omega); have h8 := hwr (by omega); omega) | (have h9 := hto v (by omega) 0 (by have := hwr (by omega); omega); omega) | skip
              all_goals first | (refine hK _ ?_; clear hK K) | (simp only [push_cast]; done)
              refine awp_block ?_
              refine awp_loopU [12,13,14,15,78,79,80,81,82,83,84,85,86,87,88,89,90,91,92,93,94,95,96,97,98,99,100,101,102,103,104,105,106,107,108,109,110,111,112,113,114,115,116,117,118,119,120,121,122,123] [] (fun (i : Nat) => [(78, .int .i64 i), (12, .int .i64 (bestK w k v i))]) (fun i => []) (fun i => []) (fun i => i ≤ (gl w.a.next v).length) (fun i => (gl w.a.next v).length - i) 0 ?_ (by omega) ?_
              ·
                rw [bestK_0]
                refine cov_of rfl ?_ ?_ ?_ <;> simp only [covS, covL, push_cast, ↓brB_true, ↓brB_false, ↓reduceIte, zA, zB, zC, zD, zE, zF, zG, zH, zI, reduceCtorEq]
              · rintro i hi KL3 hL3
                have hwi : i < (gl w.a.next v).length → _ := fun h => hto v (by omega) i h
                have hed : i < (gl w.a.next v).length → _ := fun h => edge_bd hw (k := k) (by omega) h (by omega)
                have hbk := bestK_bd hw (k := k) (v := v) (i := i) (by omega) hi (by omega)
                have hedp : i < (gl w.a.next v).length → gi (payL w k) (gi (gl w.a.next v) i).toNat + gi (gl w.cost v) i = edgeV w k v i := fun h => by unfold edgeV; rw [payL_gi (by have := hwi h; omega), Int.add_comm]
                simp only [push_cast, ↓brB_true, ↓brB_false, ↓reduceIte, zA, zB, zC, zD, zE, zF, zG, zH, zI, reduceCtorEq]
                refine awp_seq' fun K hK => ?_
                refine awp_region tyOk tyPos [] rfl ?_
                all_goals simp only [push_cast, ↓brB_true, ↓brB_false, ↓reduceIte, zA, zB, zC, zD, zE, zF, zG, zH, zI, reduceCtorEq]
                all_goals repeat' (first | (apply brB_mk <;> (intro hg; (try simp only [push_cast] at hg))) | apply And.intro | (intro hg; (try simp only [push_cast] at hg)))
                all_goals first | exact gA | (exact getE_dII (by omega)) | (rw [hb2]; omega) | (rw [hb3]; omega) | (rw [hb4]; omega) | (rw [hb5]; omega) | (rw [Int.neg_neg]; have := hwst (by omega); omega) | (have h8 := hwr (by omega); have h7 := hed0 (by omega) (by omega); have h6 := hee0 (by omega) (by omega); omega) | (have h8 := hwr (by omega); have h7 := hedp (by omega); have h6 := hed (by omega); omega) | (have h9 := hto v (by omega) i (by omega); have h8 := hwr (by omega); omega) | (have h9 := hto v (by omega) 0 (by have := hwr (by omega); omega); omega) | skip
                all_goals first | (refine hK _ ?_; clear hK K) | (simp only [push_cast]; done)
                refine awp_seq' fun K11 hK11 => ?_
                refine awp_cond rfl (fun hc => ?_) (fun hc => ?_) <;> (try simp only [push_cast] at hc)
                ·
                  refine awp_skip ?_
                  (try simp only [AThen, ABlk, reduceIte, zF]); refine hK11 _ ?_
                  refine awp_seq' fun K12 hK12 => ?_
                  refine awp_block ?_
                  refine awp_seq' fun K hK => ?_
                  refine awp_region tyOk tyPos [] rfl ?_
                  all_goals simp only [push_cast, ↓brB_true, ↓brB_false, ↓reduceIte, zA, zB, zC, zD, zE, zF, zG, zH, zI, reduceCtorEq]
                  all_goals repeat' (first | (apply brB_mk <;> (intro hg; (try simp only [push_cast] at hg))) | apply And.intro | (intro hg; (try simp only [push_cast] at hg)))
                  all_goals first | exact gA | (exact getE_dII (by omega)) | (rw [hb2]; omega) | (rw [hb3]; omega) | (rw [hb4]; omega) | (rw [hb5]; omega) | (rw [Int.neg_neg]; have := hwst (by omega); omega) | (have h8 := hwr (by omega); have h7 := hed0 (by omega) (by omega); have h6 := hee0 (by omega) (by omega); omega) | (have h8 := hwr (by omega); have h7 := hedp (by omega); have h6 := hed (by omega); omega) | (have h9 := hto v (by omega) i (by omega); have h8 := hwr (by omega); omega) | (have h9 := hto v (by omega) 0 (by have := hwr (by omega); omega); omega) | skip
                  all_goals first | (refine hK _ ?_; clear hK K) | (simp only [push_cast]; done)
                  refine awp_seq' fun K hK => ?_
                  refine awp_regionD1 false tyOk tyPos tyMix ?_ rfl ?_
                  · kernel_rfl
                  intro E hE
                  all_goals simp only [push_cast, ↓brB_true, ↓brB_false, ↓reduceIte, zA, zB, zC, zD, zE, zF, zG, zH, zI, reduceCtorEq]
                  all_goals repeat' (first | (apply brB_mk <;> (intro hg; (try simp only [push_cast] at hg))) | apply And.intro | (intro hg; (try simp only [push_cast] at hg)))
                  all_goals first | exact gA | (refine hE _ _ ?_ ?_; kernel_rfl) | (exact getE_dII (by omega)) | (rw [hb2]; omega) | (rw [hb3]; omega) | (rw [hb4]; omega) | (rw [hb5]; omega) | (rw [Int.neg_neg]; have := hwst (by omega); omega) | (have h8 := hwr (by omega); have h7 := hed0 (by omega) (by omega); have h6 := hee0 (by omega) (by omega); omega) | (have h8 := hwr (by omega); have h7 := hedp (by omega); have h6 := hed (by omega); omega) | (have h9 := hto v (by omega) i (by omega); have h8 := hwr (by omega); omega) | (have h9 := hto v (by omega) 0 (by have := hwr (by omega); omega); omega) | skip
                  all_goals clear hE E
                  all_goals first | (refine hK _ ?_; clear hK K) | (simp only [push_cast]; done)
                  rw [hedp (by have := hwr (by omega); omega)]
                  refine awp_seq' fun K hK => ?_
                  refine awp_regionN false tyOk tyPos ?_ rfl ?_
                  · kernel_rfl
                  all_goals simp only [push_cast, ↓brB_true, ↓brB_false, ↓reduceIte, zA, zB, zC, zD, zE, zF, zG, zH, zI, reduceCtorEq]
                  all_goals repeat' (first | (apply brB_mk <;> (intro hg; (try simp only [push_cast] at hg))) | apply And.intro | (intro hg; (try simp only [push_cast] at hg)))
                  all_goals first | exact gA | (exact getE_dII (by omega)) | (rw [hb2]; omega) | (rw [hb3]; omega) | (rw [hb4]; omega) | (rw [hb5]; omega) | (rw [Int.neg_neg]; have := hwst (by omega); omega) | (have h8 := hwr (by omega); have h7 := hed0 (by omega) (by omega); have h6 := hee0 (by omega) (by omega); omega) | (have h8 := hwr (by omega); have h7 := hedp (by omega); have h6 := hed (by omega); omega) | (have h9 := hto v (by omega) i (by omega); have h8 := hwr (by omega); omega) | (have h9 := hto v (by omega) 0 (by have := hwr (by omega); omega); omega) | skip
                  all_goals first | (refine hK _ ?_; clear hK K) | (simp only [push_cast]; done)
                  all_goals refine awp_cond rfl (fun hc => ?_) (fun hc => ?_)
                  all_goals (first | (cases hc; done) | skip)
                  all_goals (try simp only [push_cast] at hc)
                  all_goals first
                    | (
                        refine awp_skip ?_
                        (try simp only [AThen, ABlk, reduceIte, zF]); refine hK12 _ ?_
                        refine awp_region tyOk tyPos [] rfl ?_
                        all_goals simp only [push_cast, ↓brB_true, ↓brB_false, ↓reduceIte, zA, zB, zC, zD, zE, zF, zG, zH, zI, reduceCtorEq]
                        all_goals repeat' (first | (apply brB_mk <;> (intro hg; (try simp only [push_cast] at hg))) | apply And.intro | (intro hg; (try simp only [push_cast] at hg)))
                        all_goals first | exact gA | (exact getE_dII (by omega)) | (rw [hb2]; omega) | (rw [hb3]; omega) | (rw [hb4]; omega) | (rw [hb5]; omega) | (rw [Int.neg_neg]; have := hwst (by omega); omega) | (have h8 := hwr (by omega); have h7 := hed0 (by omega) (by omega); have h6 := hee0 (by omega) (by omega); omega) | (have h8 := hwr (by omega); have h7 := hedp (by omega); have h6 := hed (by omega); omega) | (have h9 := hto v (by omega) i (by omega); have h8 := hwr (by omega); omega) | (have h9 := hto v (by omega) 0 (by have := hwr (by omega); omega); omega) | skip
                        refine hL3 _ ⟨i + 1, by omega, by omega, ?_⟩
                        rw [bestK_no (by omega)]
                        refine cov_of rfl ?_ ?_ ?_ <;> simp only [covS, covL, push_cast, ↓brB_true, ↓brB_false, ↓reduceIte, zA, zB, zC, zD, zE, zF, zG, zH, zI, reduceCtorEq]
                        done)
                    | (
                        refine awp_region tyOk tyPos [] rfl ?_
                        all_goals simp only [push_cast, ↓brB_true, ↓brB_false, ↓reduceIte, zA, zB, zC, zD, zE, zF, zG, zH, zI, reduceCtorEq]
                        all_goals repeat' (first | (apply brB_mk <;> (intro hg; (try simp only [push_cast] at hg))) | apply And.intro | (intro hg; (try simp only [push_cast] at hg)))
                        all_goals first | exact gA | (exact getE_dII (by omega)) | (rw [hb2]; omega) | (rw [hb3]; omega) | (rw [hb4]; omega) | (rw [hb5]; omega) | (rw [Int.neg_neg]; have := hwst (by omega); omega) | (have h8 := hwr (by omega); have h7 := hed0 (by omega) (by omega); have h6 := hee0 (by omega) (by omega); omega) | (have h8 := hwr (by omega); have h7 := hedp (by omega); have h6 := hed (by omega); omega) | (have h9 := hto v (by omega) i (by omega); have h8 := hwr (by omega); omega) | (have h9 := hto v (by omega) 0 (by have := hwr (by omega); omega); omega) | skip
                        (try simp only [AThen, ABlk, reduceIte, zF]); refine hK12 _ ?_
                        refine awp_region tyOk tyPos [] rfl ?_
                        all_goals simp only [push_cast, ↓brB_true, ↓brB_false, ↓reduceIte, zA, zB, zC, zD, zE, zF, zG, zH, zI, reduceCtorEq]
                        all_goals repeat' (first | (apply brB_mk <;> (intro hg; (try simp only [push_cast] at hg))) | apply And.intro | (intro hg; (try simp only [push_cast] at hg)))
                        all_goals first | exact gA | (exact getE_dII (by omega)) | (rw [hb2]; omega) | (rw [hb3]; omega) | (rw [hb4]; omega) | (rw [hb5]; omega) | (rw [Int.neg_neg]; have := hwst (by omega); omega) | (have h8 := hwr (by omega); have h7 := hed0 (by omega) (by omega); have h6 := hee0 (by omega) (by omega); omega) | (have h8 := hwr (by omega); have h7 := hedp (by omega); have h6 := hed (by omega); omega) | (have h9 := hto v (by omega) i (by omega); have h8 := hwr (by omega); omega) | (have h9 := hto v (by omega) 0 (by have := hwr (by omega); omega); omega) | skip
                        refine hL3 _ ⟨i + 1, by omega, by omega, ?_⟩
                        rw [bestK_yes (by omega)]
                        refine cov_of rfl ?_ ?_ ?_ <;> simp only [covS, covL, push_cast, ↓brB_true, ↓brB_false, ↓reduceIte, zA, zB, zC, zD, zE, zF, zG, zH, zI, reduceCtorEq]
                        done)
                ·
                  refine awp_exit ?_
                  have hii : i = (gl w.a.next v).length := by omega
                  subst hii
                  rw [bestK_all (by have := hwr (by omega); omega)]
                  (try simp only [AThen, ABlk, reduceIte, zF]); refine hK10 _ ?_
                  refine awp_region tyOk tyPos [] rfl ?_
                  all_goals simp only [push_cast, ↓brB_true, ↓brB_false, ↓reduceIte, zA, zB, zC, zD, zE, zF, zG, zH, zI, reduceCtorEq]
                  all_goals repeat' (first | (apply brB_mk <;> (intro hg; (try simp only [push_cast] at hg))) | apply And.intro | (intro hg; (try simp only [push_cast] at hg)))
                  all_goals first | exact gA | (exact getE_dII (by omega)) | (rw [hb2]; omega) | (rw [hb3]; omega) | (rw [hb4]; omega) | (rw [hb5]; omega) | (rw [Int.neg_neg]; have := hwst (by omega); omega) | (have h8 := hwr (by omega); have h7 := hed0 (by omega) (by omega); have h6 := hee0 (by omega) (by omega); omega) | (have h8 := hwr (by omega); have h7 := hedp (by omega); have h6 := hed (by omega); omega) | (have h9 := hto v (by omega) i (by omega); have h8 := hwr (by omega); omega) | (have h9 := hto v (by omega) 0 (by have := hwr (by omega); omega); omega) | skip
                  (try simp only [AThen, ABlk, reduceIte, zF]); refine hK9 _ ?_
                  refine awp_region tyOk tyPos [] rfl ?_
                  all_goals simp only [push_cast, ↓brB_true, ↓brB_false, ↓reduceIte, zA, zB, zC, zD, zE, zF, zG, zH, zI, reduceCtorEq]
                  all_goals repeat' (first | (apply brB_mk <;> (intro hg; (try simp only [push_cast] at hg))) | apply And.intro | (intro hg; (try simp only [push_cast] at hg)))
                  all_goals first | exact gA | (exact getE_dII (by omega)) | (rw [hb2]; omega) | (rw [hb3]; omega) | (rw [hb4]; omega) | (rw [hb5]; omega) | (rw [Int.neg_neg]; have := hwst (by omega); omega) | (have h8 := hwr (by omega); have h7 := hed0 (by omega) (by omega); have h6 := hee0 (by omega) (by omega); omega) | (have h8 := hwr (by omega); have h7 := hedp (by omega); have h6 := hed (by omega); omega) | (have h9 := hto v (by omega) i (by omega); have h8 := hwr (by omega); omega) | (have h9 := hto v (by omega) 0 (by have := hwr (by omega); omega); omega) | skip
                  refine hL2 _ ⟨(v + 1, z.set v ((gmW w).pay (k + 1) v)), ⟨by simp only; omega, by simp only; rw [List.length_set]; exact hz, fun u9 h9 => (by
                      simp only at h9 ⊢
                      by_cases e : u9 = v
                      · subst e
                        exact set_same (by omega)
                      · rw [set_keep e, hall u9 (by omega)])⟩, by simp only; omega, ?_⟩
                  refine cov_of rfl ?_ ?_ ?_ <;> simp only [covS, covL, push_cast, ↓brB_true, ↓brB_false, ↓reduceIte, zA, zB, zC, zD, zE, zF, zG, zH, zI, reduceCtorEq]
            ·
              refine awp_exit ?_
              have hvv : v = w.a.owner.length := by omega
              subst hvv
              (try simp only [AThen, ABlk, reduceIte, zF]); refine hK7 _ ?_
              refine awp_region tyOk tyPos [128, 144] rfl ?_
              simp only [push_cast, ↓brB_true, ↓brB_false, ↓reduceIte, zA, zB, zC, zD, zE, zF, zG, zH, zI, reduceCtorEq]
              repeat' apply And.intro
              all_goals try exact gB
              (try simp only [AThen, ABlk, reduceIte, zF]); refine hK6 _ ?_
              refine awp_moveTo 2 8 4096 (Nat.le_of_ble_eq_true rfl) ?_
              simp only [push_cast, ↓brB_true, ↓brB_false, ↓reduceIte, zA, zB, zC, zD, zE, zF, zG, zH, zI, reduceCtorEq]
              refine awp_moveTo 2 9 144 (Nat.le_of_ble_eq_true rfl) ?_
              simp only [push_cast, ↓brB_true, ↓brB_false, ↓reduceIte, zA, zB, zC, zD, zE, zF, zG, zH, zI, reduceCtorEq]
              refine awp_moveTo 2 8 128 (Nat.le_of_ble_eq_true rfl) ?_
              simp only [push_cast, ↓brB_true, ↓brB_false, ↓reduceIte, zA, zB, zC, zD, zE, zF, zG, zH, zI, reduceCtorEq]
              refine awp_region tyOk tyPos [] rfl ?_
              all_goals simp only [push_cast, ↓brB_true, ↓brB_false, ↓reduceIte, zA, zB, zC, zD, zE, zF, zG, zH, zI, reduceCtorEq]
              all_goals repeat' (first | (apply brB_mk <;> (intro hg; (try simp only [push_cast] at hg))) | apply And.intro | (intro hg; (try simp only [push_cast] at hg)))
              all_goals first | exact gA | (exact getE_dII (by omega)) | (rw [hb2]; omega) | (rw [hb3]; omega) | (rw [hb4]; omega) | (rw [hb5]; omega) | (rw [Int.neg_neg]; have := hwst (by omega); omega) | (have h8 := hwr (by omega); have h7 := hed0 (by omega) (by omega); have h6 := hee0 (by omega) (by omega); omega) | (have h8 := hwr (by omega); have h7 := hedp (by omega); have h6 := hed (by omega); omega) | (have h9 := hto v (by omega) i (by omega); have h8 := hwr (by omega); omega) | (have h9 := hto v (by omega) 0 (by have := hwr (by omega); omega); omega) | skip
              refine hL1 _ ⟨(k + 1, payL w k), ⟨by simp only; omega, payL_len w k⟩, by simp only; omega, ?_⟩
              rw [show z = payL w (k + 1) from payL_ext hz fun u hu => hall u (by omega)]
              refine cov_of rfl ?_ ?_ ?_ <;> simp only [covS, covL, push_cast, ↓brB_true, ↓brB_false, ↓reduceIte, zA, zB, zC, zD, zE, zF, zG, zH, zI, reduceCtorEq]
              all_goals (try (rw [payL_len]; done))
        ·
          refine awp_exit ?_
          have hkk : k = T + 1 := by omega
          subst hkk
          (try simp only [AThen, ABlk, reduceIte, zF]); refine hK4 _ ?_
          refine awp_seq' fun K hK => ?_
          refine awp_regionN false tyOk tyPos ?_ rfl ?_
          · kernel_rfl
          simp only [push_cast, ↓brB_true, ↓brB_false, ↓reduceIte, zA, zB, zC, zD, zE, zF, zG, zH, zI, reduceCtorEq]
          all_goals repeat' (first | (apply brB_mk <;> (intro hg; (try simp only [push_cast] at hg))) | apply And.intro | (intro hg; (try simp only [push_cast] at hg)))
          all_goals first | exact gA | (exact getE_dII (by omega)) | (rw [hb2]; omega) | (rw [hb3]; omega) | (rw [hb4]; omega) | (rw [hb5]; omega) | (rw [Int.neg_neg]; have := hwst (by omega); omega) | (have h8 := hwr (by omega); have h7 := hed0 (by omega) (by omega); have h6 := hee0 (by omega) (by omega); omega) | (have h8 := hwr (by omega); have h7 := hedp (by omega); have h6 := hed (by omega); omega) | (have h9 := hto v (by omega) i (by omega); have h8 := hwr (by omega); omega) | (have h9 := hto v (by omega) 0 (by have := hwr (by omega); omega); omega) | skip
          all_goals first | (refine hK _ ?_; clear hK K) | (simp only [push_cast]; done)
          refine awp_seq' fun K13 hK13 => ?_
          refine awp_settle 50 16 (Nat.le_of_ble_eq_true rfl) ?_
          simp only [push_cast, ↓brB_true, ↓brB_false, ↓reduceIte, zA, zB, zC, zD, zE, zF, zG, zH, zI, reduceCtorEq]
          have hNr := fun k (hk : k < w.a.owner.length) => nearestFrac_fn (gi (payL w (T + 1)) k) (T + 1 : Nat) w.a.owner.length (2 * w.a.owner.length * mostW w) (mostW w) _ _ (near_val hw hk (T + 1)) (by rw [payL_gi hk]; have := hw.payB hk (by omega : T + 1 ≤ 2048001); omega) (by rw [← hT]; omega) rfl
          unfold dFr at hNr
          simp only [push_cast] at hNr
          refine awp_seq' fun K hK => ?_
          refine awp_region tyOk tyPos [] rfl ?_
          all_goals simp only [push_cast, ↓brB_true, ↓brB_false, ↓reduceIte, zA, zB, zC, zD, zE, zF, zG, zH, zI, reduceCtorEq]
          all_goals repeat' (first | (apply brB_mk <;> (intro hg; (try simp only [push_cast] at hg))) | apply And.intro | (intro hg; (try simp only [push_cast] at hg)))
          all_goals first | exact gA | (exact getE_dII (by omega)) | (rw [hb2]; omega) | (rw [hb3]; omega) | (rw [hb4]; omega) | (rw [hb5]; omega) | (rw [Int.neg_neg]; have := hwst (by omega); omega) | (have h8 := hwr (by omega); have h7 := hed0 (by omega) (by omega); have h6 := hee0 (by omega) (by omega); omega) | (have h8 := hwr (by omega); have h7 := hedp (by omega); have h6 := hed (by omega); omega) | (have h9 := hto v (by omega) i (by omega); have h8 := hwr (by omega); omega) | (have h9 := hto v (by omega) 0 (by have := hwr (by omega); omega); omega) | skip
          all_goals first | (refine hK _ ?_; clear hK K) | (simp only [push_cast]; done)
          refine awp_block ?_
          refine awp_loopU [16,18,103,108,116,135,136,137,138,139,140,141,142,143,144,145,146,147,148,149,150] [256] (fun (k : Nat) => [(135, .int .i64 k), (16, .sl 256 [] 0 k 50)]) (fun k => []) (fun k => [(256, ⟨.ex, 50, dFrs (meansT w k), none⟩)]) (fun k => k ≤ w.a.owner.length) (fun k => w.a.owner.length - k) 0 ?_ (by omega) ?_
          ·
            rw [show dFrs (meansT w 0) = [] from rfl]
            refine cov_of rfl ?_ ?_ ?_ <;> simp only [covS, covL, push_cast, ↓brB_true, ↓brB_false, ↓reduceIte, zA, zB, zC, zD, zE, zF, zG, zH, zI, reduceCtorEq]
          · rintro k hk KL4 hL4
            have hml := meansT_len w k
            have hpl := payL_len w (T + 1)
            simp only [push_cast, ↓brB_true, ↓brB_false, ↓reduceIte, zA, zB, zC, zD, zE, zF, zG, zH, zI, reduceCtorEq]
            refine awp_seq' fun K hK => ?_
            refine awp_region tyOk tyPos [] rfl ?_
            all_goals simp only [push_cast, ↓brB_true, ↓brB_false, ↓reduceIte, zA, zB, zC, zD, zE, zF, zG, zH, zI, reduceCtorEq]
            all_goals repeat' (first | (apply brB_mk <;> (intro hg; (try simp only [push_cast] at hg))) | apply And.intro | (intro hg; (try simp only [push_cast] at hg)))
            all_goals first | exact gA | (exact getE_dII (by omega)) | (rw [hb2]; omega) | (rw [hb3]; omega) | (rw [hb4]; omega) | (rw [hb5]; omega) | (rw [Int.neg_neg]; have := hwst (by omega); omega) | (have h8 := hwr (by omega); have h7 := hed0 (by omega) (by omega); have h6 := hee0 (by omega) (by omega); omega) | (have h8 := hwr (by omega); have h7 := hedp (by omega); have h6 := hed (by omega); omega) | (have h9 := hto v (by omega) i (by omega); have h8 := hwr (by omega); omega) | (have h9 := hto v (by omega) 0 (by have := hwr (by omega); omega); omega) | skip
            all_goals first | (refine hK _ ?_; clear hK K) | (simp only [push_cast]; done)
            refine awp_seq' fun K14 hK14 => ?_
            refine awp_cond rfl (fun hc => ?_) (fun hc => ?_) <;> (try simp only [push_cast] at hc)
            ·
              refine awp_skip ?_
              (try simp only [AThen, ABlk, reduceIte, zF]); refine hK14 _ ?_
              refine awp_seq' fun K15 hK15 => ?_
              refine awp_block ?_
              refine awp_seq' fun K hK => ?_
              refine awp_region tyOk tyPos [] rfl ?_
              all_goals simp only [push_cast, ↓brB_true, ↓brB_false, ↓reduceIte, zA, zB, zC, zD, zE, zF, zG, zH, zI, reduceCtorEq]
              all_goals repeat' (first | (apply brB_mk <;> (intro hg; (try simp only [push_cast] at hg))) | apply And.intro | (intro hg; (try simp only [push_cast] at hg)))
              all_goals first | exact gA | (exact getE_dII (by omega)) | (rw [hb2]; omega) | (rw [hb3]; omega) | (rw [hb4]; omega) | (rw [hb5]; omega) | (rw [Int.neg_neg]; have := hwst (by omega); omega) | (have h8 := hwr (by omega); have h7 := hed0 (by omega) (by omega); have h6 := hee0 (by omega) (by omega); omega) | (have h8 := hwr (by omega); have h7 := hedp (by omega); have h6 := hed (by omega); omega) | (have h9 := hto v (by omega) i (by omega); have h8 := hwr (by omega); omega) | (have h9 := hto v (by omega) 0 (by have := hwr (by omega); omega); omega) | skip
              all_goals first | (refine hK _ ?_; clear hK K) | (simp only [push_cast]; done)
              refine awp_regionN false tyOk tyPos ?_ rfl ?_
              · kernel_rfl
              simp only [push_cast, ↓brB_true, ↓brB_false, ↓reduceIte, zA, zB, zC, zD, zE, zF, zG, zH, zI, reduceCtorEq]
              all_goals repeat' (first | (apply brB_mk <;> (intro hg; (try simp only [push_cast] at hg))) | (refine ⟨_, hNr k (by omega), ?_⟩; simp only [push_cast, ↓brB_true, ↓brB_false, ↓reduceIte, zA, zB, zC, zD, zE, zF, zG, zH, zI, reduceCtorEq]) | apply And.intro | (intro hg; (try simp only [push_cast] at hg)))
              all_goals first | exact gA | (exact getE_dII (by omega)) | (rw [hb2]; omega) | (rw [hb3]; omega) | (rw [hb4]; omega) | (rw [hb5]; omega) | (rw [Int.neg_neg]; have := hwst (by omega); omega) | (have h8 := hwr (by omega); have h7 := hed0 (by omega) (by omega); have h6 := hee0 (by omega) (by omega); omega) | (have h8 := hwr (by omega); have h7 := hedp (by omega); have h6 := hed (by omega); omega) | (have h9 := hto v (by omega) i (by omega); have h8 := hwr (by omega); omega) | (have h9 := hto v (by omega) 0 (by have := hwr (by omega); omega); omega) | skip
              (try simp only [AThen, ABlk, reduceIte, zF]); refine hK15 _ ?_
              refine awp_settle 50 16 (Nat.le_of_ble_eq_true rfl) ?_
              simp only [push_cast, ↓brB_true, ↓brB_false, ↓reduceIte, zA, zB, zC, zD, zE, zF, zG, zH, zI, reduceCtorEq]
              refine awp_region tyOk tyPos [] rfl ?_
              all_goals simp only [push_cast, ↓brB_true, ↓brB_false, ↓reduceIte, zA, zB, zC, zD, zE, zF, zG, zH, zI, reduceCtorEq]
              all_goals repeat' (first | (apply brB_mk <;> (intro hg; (try simp only [push_cast] at hg))) | apply And.intro | (intro hg; (try simp only [push_cast] at hg)))
              all_goals first | exact gA | (exact getE_dII (by omega)) | (rw [hb2]; omega) | (rw [hb3]; omega) | (rw [hb4]; omega) | (rw [hb5]; omega) | (rw [Int.neg_neg]; have := hwst (by omega); omega) | (have h8 := hwr (by omega); have h7 := hed0 (by omega) (by omega); have h6 := hee0 (by omega) (by omega); omega) | (have h8 := hwr (by omega); have h7 := hedp (by omega); have h6 := hed (by omega); omega) | (have h9 := hto v (by omega) i (by omega); have h8 := hwr (by omega); omega) | (have h9 := hto v (by omega) 0 (by have := hwr (by omega); omega); omega) | skip
              refine hL4 _ ⟨k + 1, by omega, by omega, ?_⟩
              (try rw [List.take_of_length_le (l := meansT w k) (by omega)])
              rw [meansT_s]
              refine cov_of rfl ?_ ?_ ?_ <;> simp only [covS, covL, push_cast, ↓brB_true, ↓brB_false, ↓reduceIte, zA, zB, zC, zD, zE, zF, zG, zH, zI, reduceCtorEq]
              all_goals (try rfl)
            ·
              refine awp_exit ?_
              have hkk : k = w.a.owner.length := by omega
              subst hkk
              (try simp only [AThen, ABlk, reduceIte, zF]); refine hK13 _ ?_
              refine awp_seq' fun K hK => ?_
              refine awp_region tyOk tyPos [] rfl ?_
              all_goals simp only [push_cast, ↓brB_true, ↓brB_false, ↓reduceIte, zA, zB, zC, zD, zE, zF, zG, zH, zI, reduceCtorEq]
              all_goals repeat' (first | (apply brB_mk <;> (intro hg; (try simp only [push_cast] at hg))) | apply And.intro | (intro hg; (try simp only [push_cast] at hg)))
              all_goals first | exact gA | (exact getE_dII (by omega)) | (rw [hb2]; omega) | (rw [hb3]; omega) | (rw [hb4]; omega) | (rw [hb5]; omega) | (rw [Int.neg_neg]; have := hwst (by omega); omega) | (have h8 := hwr (by omega); have h7 := hed0 (by omega) (by omega); have h6 := hee0 (by omega) (by omega); omega) | (have h8 := hwr (by omega); have h7 := hedp (by omega); have h6 := hed (by omega); omega) | (have h9 := hto v (by omega) i (by omega); have h8 := hwr (by omega); omega) | (have h9 := hto v (by omega) 0 (by have := hwr (by omega); omega); omega) | skip
              all_goals first | (refine hK _ ?_; clear hK K) | (simp only [push_cast]; done)
              refine awp_ret ?_
              (try simp only [AThen, ABlk])
              refine ⟨Or.inl rfl, ?_⟩
              simp only [RetOk, push_cast, ↓brB_true, ↓brB_false, ↓reduceIte, zA, zB, zC, zD, zE, zF, zG, zH, zI, reduceCtorEq]
              first | rfl | exact ⟨rfl, by rw [meansL_len]⟩ | (rw [meansL_len]; done)
end Go.Proofs.Ytdbecmmeifdafaa

namespace Go.Proofs.Ytdbecmmeifdafaa
open Go.RowKit
set_option linter.unusedVariables false
set_option linter.unusedSimpArgs false

end Go.Proofs.Ytdbecmmeifdafaa

namespace Go.Proofs.Ytdbecmmeifdafaa
open Nat renaming reduceMod → zA, reduceMul → zB, reduceDiv → zC, reduceAdd → zD, reduceSub → zE, reduceEqDiff → zF, reduceBEq → zG, reduceLT → zH, reduceLeDiff → zI
open Go.RowKit
set_option linter.unusedVariables false
set_option linter.unusedSimpArgs false

open MV (Gm)
theorem wmn_of {w : Wt} (h : meanB w = true) : WMn w := by
  have hw := meanB_ok h
  obtain ⟨h1, h2, h3, h4, h5, h6⟩ := weighted_facts hw
  have h8 : w.cost.length ≤ 8 := by unfold meanB at h; rw [Bool.and_eq_true, decide_eq_true_eq] at h; exact h.2
  exact ⟨wsh_of hw, by omega, fun v hv j hj => (h6 v hv).2.2.2 j (by rw [(h6 v hv).1]; exact hj)⟩
theorem gf_means {w : Wt} {v : Nat} (h : v < w.a.owner.length) : gf (meansL w) v = valF w v := by
  unfold gf meansL
  rw [List.getD_eq_getElem?_getD, List.getElem?_map, List.getElem?_range h]
  rfl
def meansR (w : Wt) : List Fr := if meanB w then meansL w else []
theorem meansR_no {w : Wt} (h : meanB w = false) : meansR w = [] := by unfold meansR; rw [h]; rfl
theorem meansR_yes {w : Wt} (h : meanB w = true) : meansR w = meansL w := by unfold meansR; rw [h]; rfl
set_option maxRecDepth 20000 in
set_option maxHeartbeats 4000000 in
theorem MeanOfI_fn (w : Wt) (ha : w.Ln 1048576) : Fn Try.prog tyT 29 [.agg (dWt w)] [.c (.lst 50 (dFrs (meansR w)))] := by
  have hA := isMean_fn w ha
  have hO := fun h => meanOf_fn w ha (wmn_of h)
  unfold dWt at hA hO ⊢
  refine Fn_of (fn := Try.f29) (ts := [2]) Try.func29 (by kernel_rfl) rfl rfl (by rw [Try.ntmps29]; exact Nat.le_of_ble_eq_true rfl) rfl (by simp only [szA, List.mem_cons, List.not_mem_nil, or_false, forall_eq_or_imp, forall_eq, VT.cells, szL]; try decide) ?_
  rw [Try.ntmps29]
  simp only [push_cast, ↓brB_true, ↓brB_false, ↓reduceIte, zA, zB, zC, zD, zE, zF, zG, zH, zI, reduceCtorEq]
  refine awp_seq' fun K hK => ?_
  refine awp_region tyOk tyPos [] rfl ?_
  simp only [push_cast, ↓brB_true, ↓brB_false, ↓reduceIte, zA, zB, zC, zD, zE, zF, zG, zH, zI, reduceCtorEq]
  repeat' apply And.intro
  all_goals try exact gB
  all_goals first | (refine hK _ ?_; clear hK K) | (simp only [push_cast]; done)
  refine awp_seq' fun K1 hK1 => ?_
  refine awp_seq' fun K hK => ?_
  refine awp_region tyOk tyPos [] rfl ?_
  all_goals refine aops_cut 2 fun K9 hK9 => ?_
  all_goals simp only [push_cast, ↓brB_true, ↓brB_false, ↓reduceIte, zA, zB, zC, zD, zE, zF, zG, zH, zI, reduceCtorEq]
  all_goals repeat' (first | (apply brB_mk <;> (intro hg; (try simp only [push_cast] at hg))) | (refine ⟨_, hA, ?_⟩; simp only [push_cast, ↓brB_true, ↓brB_false, ↓reduceIte, zA, zB, zC, zD, zE, zF, zG, zH, zI, reduceCtorEq]) | apply And.intro | (intro hg; (try simp only [push_cast] at hg)))
  all_goals try exact gA
  all_goals first | (refine hK9 _ ?_; clear hK9 K9) | (simp only [push_cast]; done)
  all_goals simp only [push_cast, ↓brB_true, ↓brB_false, ↓reduceIte, zA, zB, zC, zD, zE, zF, zG, zH, zI, reduceCtorEq]
  all_goals repeat' (first | (apply brB_mk <;> (intro hg; (try simp only [push_cast] at hg))) | (refine ⟨_, hA, ?_⟩; simp only [push_cast, ↓brB_true, ↓brB_false, ↓reduceIte, zA, zB, zC, zD, zE, zF, zG, zH, zI, reduceCtorEq]) | apply And.intro | (intro hg; (try simp only [push_cast] at hg)))
  all_goals try exact gA
  all_goals first | (refine hK _ ?_; clear hK K) | (simp only [push_cast]; done)
  refine awp_cond rfl (fun hc => ?_) (fun hc => ?_) <;> (try simp only [push_cast] at hc)
  ·
    refine awp_seq' fun K hK => ?_
    refine awp_region tyOk tyPos [] rfl ?_
    simp only [push_cast, ↓brB_true, ↓brB_false, ↓reduceIte, zA, zB, zC, zD, zE, zF, zG, zH, zI, reduceCtorEq]
    repeat' apply And.intro
    all_goals try exact gB
    all_goals first | (refine hK _ ?_; clear hK K) | (simp only [push_cast]; done)
    refine awp_ret ?_
    (try simp only [AThen, ABlk])
    refine ⟨Or.inl rfl, ?_⟩
    simp only [RetOk, push_cast, ↓brB_true, ↓brB_false, ↓reduceIte, zA, zB, zC, zD, zE, zF, zG, zH, zI, reduceCtorEq]
    rw [meansR_no (by with_reducible assumption)]
    all_goals first | rfl | exact ⟨rfl, rfl⟩
  ·
    refine awp_skip ?_
    (try simp only [AThen, ABlk, reduceIte, zF]); refine hK1 _ ?_
    refine awp_seq' fun K hK => ?_
    refine awp_region tyOk tyPos [] rfl ?_
    all_goals refine aops_cut 2 fun K9 hK9 => ?_
    all_goals simp only [push_cast, ↓brB_true, ↓brB_false, ↓reduceIte, zA, zB, zC, zD, zE, zF, zG, zH, zI, reduceCtorEq]
    all_goals repeat' (first | (apply brB_mk <;> (intro hg; (try simp only [push_cast] at hg))) | (refine ⟨_, hO (by with_reducible assumption), ?_⟩; simp only [push_cast, ↓brB_true, ↓brB_false, ↓reduceIte, zA, zB, zC, zD, zE, zF, zG, zH, zI, reduceCtorEq]) | apply And.intro | (intro hg; (try simp only [push_cast] at hg)))
    all_goals try exact gA
    all_goals first | (refine hK9 _ ?_; clear hK9 K9) | (simp only [push_cast]; done)
    all_goals simp only [push_cast, ↓brB_true, ↓brB_false, ↓reduceIte, zA, zB, zC, zD, zE, zF, zG, zH, zI, reduceCtorEq]
    all_goals repeat' (first | (apply brB_mk <;> (intro hg; (try simp only [push_cast] at hg))) | (refine ⟨_, hO (by with_reducible assumption), ?_⟩; simp only [push_cast, ↓brB_true, ↓brB_false, ↓reduceIte, zA, zB, zC, zD, zE, zF, zG, zH, zI, reduceCtorEq]) | apply And.intro | (intro hg; (try simp only [push_cast] at hg)))
    all_goals try exact gA
    all_goals first | (refine hK _ ?_; clear hK K) | (simp only [push_cast]; done)
    refine awp_ret ?_
    (try simp only [AThen, ABlk])
    refine ⟨Or.inl rfl, ?_⟩
    simp only [RetOk, push_cast, ↓brB_true, ↓brB_false, ↓reduceIte, zA, zB, zC, zD, zE, zF, zG, zH, zI, reduceCtorEq]
    rw [meansR_yes (by with_reducible assumption)]
    all_goals first | rfl | exact ⟨rfl, rfl⟩
end Go.Proofs.Ytdbecmmeifdafaa

namespace Go.Proofs.Ytdbecmmeifdafaa
open Go Go.RowKit
set_option linter.unusedVariables false
def St.settleBA (al : List Nat) (ks : List CK) (b : Nat) (st : St) : St :=
  match lk st.b b with
  | none => st
  | some cells =>
    match lk (homL al ks st (home b 0) [] cells).1.b b with
    | none => st
    | some cells' => if cells'.length = (homL al ks st (home b 0) [] cells).2.length then (homL al ks st (home b 0) [] cells).1.setB b (homL al ks st (home b 0) [] cells).2 else st
theorem awp_settleBA {P : Program} {τ : Ty} (al : List Nat) (ks : List CK) (b : Nat) {c : Code} {Q : Exit → St → Prop} {st : St} (h : awp P τ c Q (st.settleBA al ks b)) : awp P τ c Q st := by
  unfold St.settleBA at h
  split at h
  · exact h
  · rename_i cells hl
    split at h
    · exact h
    · rename_i cells' hl'
      split at h
      · rename_i hlen
        intro lo w0 a w hr
        obtain ⟨ow, hd, bk, hrr⟩ := hr
        obtain ⟨cs, ty, g1, g2, g3⟩ := hrr.box b cells hl
        obtain ⟨ow1, hd1, r1, r2⟩ := homL_sound al ks st ow hd (home b 0) [] cells [] cs hrr (by simp [AvRL]) g3
        obtain ⟨cs0, ty0, k1, k2, k3⟩ := r1.box b cells' hl'
        rw [List.nil_append] at r2
        have e0 : cs0 = cs := by
          rw [g1] at k1
          simp only [Option.some.injEq, Obj.cells.injEq] at k1
          have := k1.1
          simpa using this.symm
        subst e0
        have hrel := RelC_setB r1 hl' k1 (i := 0) (by omega) k3 r2
        rw [lay_all rfl, lay_all hlen.symm, setRow_self w _ _ _ _ k1] at hrel
        exact h lo w0 a w ⟨ow1, hd1, bk, hrel⟩
      · exact h
attribute [push_cast] St.settleBA
end Go.Proofs.Ytdbecmmeifdafaa

namespace Go.Proofs.Ytdbecmmeifdafaa
open Go.RowKit
set_option linter.unusedVariables false
set_option linter.unusedSimpArgs false

end Go.Proofs.Ytdbecmmeifdafaa

namespace Go.Proofs.Ytdbecmmeifdafaa
open Go.RowKit MV
set_option linter.unusedVariables false
set_option linter.unusedSimpArgs false

theorem frOf_cross {p q : Int} (hq : 1 ≤ q) : ∃ g : Int, 1 ≤ g ∧ p = (frOf p q).num * g ∧ q = (frOf p q).den * g := by
  refine ⟨Int.gcd p q, by have := gcd_pos' p hq; omega, ?_, ?_⟩
  · show p = p.tdiv (Int.gcd p q) * (Int.gcd p q)
    exact (Int.tdiv_mul_cancel (Int.gcd_dvd_left ..)).symm
  · show q = q.tdiv (Int.gcd p q) * (Int.gcd p q)
    exact (Int.tdiv_mul_cancel (Int.gcd_dvd_right ..)).symm
end Go.Proofs.Ytdbecmmeifdafaa

namespace Go.Proofs.Ytdbecmmeifdafaa
open Go.RowKit MV
set_option linter.unusedVariables false
set_option linter.unusedSimpArgs false

def sumF (f : Nat → Int) : List Nat → Int
  | [] => 0
  | x :: L => f x + sumF f L
theorem sumF_ge {f : Nat → Int} {P : Int} : ∀ (L : List Nat), (∀ x ∈ L, -P ≤ f x) → -(L.length * P) ≤ sumF f L
  | [], _ => by show -(((0 : Nat) : Int) * P) ≤ 0; rw [Int.natCast_zero, Int.zero_mul]; omega
  | x :: L, h => by
    have h1 := sumF_ge L fun y hy => h y (List.mem_cons_of_mem _ hy)
    have h2 := h x List.mem_cons_self
    show -(((L.length + 1 : Nat) : Int) * P) ≤ f x + sumF f L
    rw [show ((L.length + 1 : Nat) : Int) = (L.length : Int) + 1 by omega, Int.add_mul, Int.one_mul]
    omega
theorem sumF_top {f : Nat → Int} {P Q : Int} : ∀ (L : List Nat), (∀ x ∈ L, -P ≤ f x) → (∃ x ∈ L, f x = Q) → Q - ((L.length : Int) - 1) * P ≤ sumF f L
  | [], _, h => by obtain ⟨x, hx, -⟩ := h; cases hx
  | x :: L, h, hq => by
    have h2 := h x List.mem_cons_self
    have h3 : ∀ y ∈ L, -P ≤ f y := fun y hy => h y (List.mem_cons_of_mem _ hy)
    have e : (((L.length + 1 : Nat) : Int) - 1) * P = L.length * P := by rw [show ((L.length + 1 : Nat) : Int) - 1 = L.length by omega]
    show Q - (((L.length + 1 : Nat) : Int) - 1) * P ≤ f x + sumF f L
    rw [e]
    obtain ⟨y, hy, hf⟩ := hq
    rcases List.mem_cons.1 hy with e1 | e1
    · have := sumF_ge L h3
      rw [e1] at hf
      omega
    · have := sumF_top L h3 ⟨y, e1, hf⟩
      rw [Int.sub_mul, Int.one_mul] at this
      omega
theorem pw_succ (n : Int) (k : Nat) : pw n (k + 1) = pw n k * n := rfl
theorem sign_pos {n : Nat} (hn : 1 ≤ n) {pr : Nat → Nat} {t : Nat} {L : List Nat} (hl : L.length ≤ n) (h : ∀ x ∈ L, pr x ≤ t) (ht : ∃ x ∈ L, pr x = t) :
    (t % 2 = 0 → 0 < sumF (fun x => sg n (pr x)) L) ∧ (t % 2 = 1 → 0 < sumF (fun x => -sg n (pr x)) L) := by
  have hn1 : (1 : Int) ≤ n := by omega
  cases t with
  | zero =>
    refine ⟨fun _ => ?_, fun e => by omega⟩
    have := sumF_top (f := fun x => sg n (pr x)) (P := 0) (Q := 1) L (fun x hx => by
      have := h x hx
      show -0 ≤ sg n (pr x)
      rw [show pr x = 0 by omega]
      rw [show sg n 0 = 1 from rfl]
      decide) (by
      obtain ⟨x, hx, e⟩ := ht
      exact ⟨x, hx, by show sg n (pr x) = 1; rw [e]; rfl⟩)
    omega
  | succ k =>
    have hp := pw_pos hn1 k
    have hlow : ∀ x ∈ L, pr x ≤ k → -pw n k ≤ sg n (pr x) ∧ sg n (pr x) ≤ pw n k := fun x hx hx2 => by
      have h1 := pw_mono hn1 hx2
      have h2 := pw_pos hn1 (pr x)
      rcases sg_abs hn1 (pr x) with e | e <;> rw [e] <;> omega
    have hk : ∀ S : Int, pw n (k + 1) - ((L.length : Int) - 1) * pw n k ≤ S → 0 < S := fun S hS => by
      have h1 : ((L.length : Int) - 1) * pw n k ≤ ((n : Int) - 1) * pw n k := Int.mul_le_mul_of_nonneg_right (by omega) (by omega)
      rw [pw_succ, Int.mul_comm (pw n k)] at hS
      rw [Int.sub_mul (n : Int), Int.one_mul] at h1
      omega
    have hp1 := pw_pos hn1 (k + 1)
    constructor
    · intro e
      have et : sg n (k + 1) = pw n (k + 1) := if_neg (by omega)
      refine hk _ (sumF_top L (fun x hx => ?_) ?_)
      · show -pw n k ≤ sg n (pr x)
        rcases Nat.lt_or_ge k (pr x) with h5 | h5
        · rw [show pr x = k + 1 by have := h x hx; omega, et]; omega
        · exact (hlow x hx h5).1
      · obtain ⟨x, hx, e2⟩ := ht
        exact ⟨x, hx, by show sg n (pr x) = _; rw [e2, et]⟩
    · intro e
      have et : sg n (k + 1) = -pw n (k + 1) := if_pos (by omega)
      refine hk _ (sumF_top L (fun x hx => ?_) ?_)
      · show -pw n k ≤ -sg n (pr x)
        rcases Nat.lt_or_ge k (pr x) with h5 | h5
        · rw [show pr x = k + 1 by have := h x hx; omega, et]; omega
        · have := (hlow x hx h5).2; omega
      · obtain ⟨x, hx, e2⟩ := ht
        exact ⟨x, hx, by show -sg n (pr x) = _; rw [e2, et]; omega⟩
inductive WayR (R : Nat → Nat → Prop) (c : Nat → Int) : List (Nat × Int) → Nat → Int → Prop
  | nil {v : Nat} {s : Int} : WayR R c [] v s
  | cons {S : List (Nat × Int)} {u : Nat} {r : Int} {v : Nat} : WayR R c S u r → R u v → WayR R c ((u, r) :: S) v (r + c u)
theorem WayR.back {R : Nat → Nat → Prop} {c : Nat → Int} {pr : Nat → Nat} {S : List (Nat × Int)} {v : Nat} {s : Int} (h : WayR R c S v s) : ∀ {j : Nat} {u : Nat} {r : Int}, S[j]? = some (u, r) →
    s - r = sumF c ((S.take (j + 1)).map (·.1)) ∧ ∃ t, Wk R pr u v t ∧ (∀ x ∈ (S.take (j + 1)).map (·.1), pr x ≤ t) ∧ ∃ x ∈ (S.take (j + 1)).map (·.1), pr x = t := by
  induction h with
  | nil => intro j u r h; simp at h
  | @cons S u r v h1 h2 ih =>
    intro j u' r' h
    cases j with
    | zero =>
      simp at h
      obtain ⟨rfl, rfl⟩ := h
      refine ⟨by show _ = c u + 0; omega, _, .one h2, fun x hx => ?_, u, by simp, rfl⟩
      have : x = u := by simpa using hx
      rw [this]; exact Nat.le_refl _
    | succ j =>
      simp at h
      obtain ⟨e, t, w, a, x, hx, ex⟩ := ih h
      have hl : ((u, r) :: S).take (j + 1 + 1) = (u, r) :: S.take (j + 1) := rfl
      rw [hl, List.map_cons]
      refine ⟨?_, max t (pr u), w.app (.one h2), fun y hy => ?_, ?_⟩
      · show _ = c u + sumF c _
        rw [← e]; omega
      · rcases List.mem_cons.1 hy with e1 | e1
        · rw [e1]; exact Nat.le_max_right ..
        · exact Nat.le_trans (a y e1) (Nat.le_max_left ..)
      · rcases Nat.le_total t (pr u) with h5 | h5
        · exact ⟨u, List.mem_cons_self, by rw [Nat.max_eq_right h5]⟩
        · exact ⟨x, List.mem_cons_of_mem _ hx, by rw [Nat.max_eq_left h5]; exact ex⟩
theorem first_pos {gm : Gm} {n : Nat} {W : Int} (hg : gm.Ok n W) {pg : PG} {who : Int} {D U : Nat → Prop} {s : Nat → Nat} (hw : Wins pg who D U s) (hD : ∀ v, v < n ↔ D v)
    (hmx : ∀ v, v < n → (gm.mx v = true ↔ pg.own v = who)) (hE : ∀ v u, v < n → (pg.E v u ↔ ∃ j, j < gm.deg v ∧ gm.to v j = u)) {c : Nat → Int} (hc : ∀ v, v < n → ∀ j, j < gm.deg v → gm.c v j = c v)
    (hsg : ∀ (L : List Nat) (t : Nat), L.length ≤ n → (∀ x ∈ L, pg.pr x ≤ t) → (∃ x ∈ L, pg.pr x = t) → (t : Int) % 2 = who → 0 < sumF c L) :
    ∀ f S v r, MV.Way n W S v r → WayR (SR pg who U s) c S v r → U v → n + 1 ≤ f + S.length → atL (1, n) (gm.first f S v r)
  | 0, S, v, r, hW, hR, hU, hf => by have := hW.len; omega
  | f + 1, S, v, r, hW, hR, hU, hf => by
    have hv := hW.lt
    have hn : (0 : Int) < n := by omega
    unfold Gm.first
    cases hfd : findS v S 0 with
    | some x =>
      obtain ⟨i, s0⟩ := x
      obtain ⟨j, hj, hS⟩ := findS_some hfd
      have hj' : i = j := by omega
      obtain ⟨e, t, w, a, hx⟩ := hR.back (pr := pg.pr) hS
      have hll : ((S.take (j + 1)).map (·.1)).length ≤ n := by
        rw [List.length_map, List.length_take]
        have := hW.len
        omega
      have hp := hsg _ t hll a hx (hw.good v t w)
      show (1 : Int) * ((i : Int) + 1) ≤ (r - s0) * n
      rw [e, hj']
      have hjl : j < S.length := (List.getElem?_eq_some_iff.1 hS).1
      have hSl := hW.len
      have h1 : (1 : Int) * n ≤ sumF c ((S.take (j + 1)).map (·.1)) * n := Int.mul_le_mul_of_nonneg_right (by omega) (by omega)
      omega
    | none =>
      show atL (1, n) (optF (gm.mx v) (fun j => gm.first f ((v, r) :: S) (gm.to v j) (r + gm.c v j)) (gm.deg v))
      have hnot := findS_none hfd
      have hway : ∀ j, j < gm.deg v → MV.Way n W ((v, r) :: S) (gm.to v j) (r + gm.c v j) := fun j hj => .cons hW hnot (hg.to v hv j hj) (by have := hg.hi v hv j hj; omega) (by have := hg.lo v hv j hj; omega)
      have hlen : n + 1 ≤ f + ((v, r) :: S).length := by rw [List.length_cons]; omega
      have hf1 : 1 ≤ f := by
        have := hW.len' hnot
        omega
      have hpos : ∀ j, j < gm.deg v → 0 < (gm.first f ((v, r) :: S) (gm.to v j) (r + gm.c v j)).2 := fun j hj => by
        have := (Gm.first_ok hg f _ _ _ (hway j hj) hlen hf1).1
        omega
      have hgo : ∀ j, j < gm.deg v → U (gm.to v j) → (pg.own v = who → gm.to v j = s v) → atL (1, n) (gm.first f ((v, r) :: S) (gm.to v j) (r + gm.c v j)) := fun j hj hu ho => by
        refine first_pos hg hw hD hmx hE hc hsg f _ _ _ (hway j hj) ?_ hu hlen
        rw [hc v hv j hj]
        exact .cons hR ⟨hU, hu, (hE v _ hv).2 ⟨j, hj, rfl⟩, ho⟩
      by_cases ho : pg.own v = who
      · rw [(hmx v hv).2 ho]
        obtain ⟨a, b⟩ := hw.own v hU ho
        obtain ⟨j, hj, e⟩ := (hE v _ hv).1 a
        exact optF_atL_max hn _ hpos j hj (hgo j hj (by rw [e]; exact b) fun _ => e)
      · obtain ⟨j, hj, e⟩ := optF_ex (gm.mx v) (fun j => gm.first f ((v, r) :: S) (gm.to v j) (r + gm.c v j)) (gm.deg v) (hg.deg v hv)
        rw [e]
        exact hgo j hj (hw.opp v _ hU ho ((hE v _ hv).2 ⟨j, hj, rfl⟩) ((hD _).1 (hg.to v hv j hj))) fun h => absurd h ho
def pgOf (g : Pa) : PG := ⟨fun v => if v < g.a.owner.length then gi g.a.owner v else 0, fun v => (gi g.prio v).toNat, fun v u => v < g.a.owner.length ∧ ∃ j, j < (gl g.a.next v).length ∧ (gi (gl g.a.next v) j).toNat = u⟩
theorem bridge_val {g : Pa} (h : bridgeB g = true) {W0 W1 : Nat → Prop} {s0 s1 : Nat → Nat} (h0 : Wins (pgOf g) 0 (fun v => v < g.a.owner.length) W0 s0) (h1 : Wins (pgOf g) 1 (fun v => v < g.a.owner.length) W1 s1) {v : Nat} (hv : v < g.a.owner.length) :
    (W0 v → 0 < (valF (bridgeW g) v).num) ∧ (W1 v → (valF (bridgeW g) v).num < 0) := by
  have hwb := bridge_weighted h
  have hw := wsh_of hwb
  obtain ⟨hpar, h24, hsc⟩ := bridge_facts h
  have hwe := bridgeW_yes h
  have hlen : (bridgeW g).a.owner.length = g.a.owner.length := by rw [hwe]
  have hown : (bridgeW g).a = g.a := by rw [hwe]
  have hcost : ∀ v, v < g.a.owner.length → ∀ j, j < (gl g.a.next v).length → gi (gl (bridgeW g).cost v) j = sg g.a.owner.length (gi g.prio v).toNat := fun v hv j hj => by
    rw [hwe]
    show gi (gl (bridgeR g g.a.owner.length) v) j = _
    rw [bridgeR_gl hv]
    unfold rowV
    rw [gi_rep hj]
    have := hsc v hv
    unfold scoreB at this
    exact (scoreB_yes (of_decide_eq_true this)).2
  have hok : (gmW (bridgeW g)).Ok g.a.owner.length 20000 := by rw [← hlen]; exact gm_ok20 hw
  have ho := hw.own
  rw [hown] at ho
  have hE : ∀ v u, v < g.a.owner.length → ((pgOf g).E v u ↔ ∃ j, j < (gmW (bridgeW g)).deg v ∧ (gmW (bridgeW g)).to v j = u) := fun v u hv => by
    show (v < g.a.owner.length ∧ ∃ j, j < (gl g.a.next v).length ∧ (gi (gl g.a.next v) j).toNat = u) ↔ ∃ j, j < (gl (bridgeW g).a.next v).length ∧ (gi (gl (bridgeW g).a.next v) j).toNat = u
    rw [hown]
    exact ⟨fun h => h.2, fun h => ⟨hv, h⟩⟩
  have hn1 : 1 ≤ g.a.owner.length := by omega
  have hval : ∀ v, v < g.a.owner.length → ∃ q : Int, 1 ≤ q ∧ ((gmW (bridgeW g)).val g.a.owner.length v).1 = (valF (bridgeW g) v).num * q := fun v hv => by
    have a := (Gm.val_ok hok hv).1
    obtain ⟨q, q1, e, -⟩ := frOf_cross (p := ((gmW (bridgeW g)).val g.a.owner.length v).1) (q := ((gmW (bridgeW g)).val g.a.owner.length v).2) a
    refine ⟨q, q1, ?_⟩
    have e2 : valF (bridgeW g) v = frOf ((gmW (bridgeW g)).val g.a.owner.length v).1 ((gmW (bridgeW g)).val g.a.owner.length v).2 := by unfold valF; rw [hlen]
    rw [e2]; exact e
  obtain ⟨q, q1, hq⟩ := hval v hv
  have hvok := Gm.val_ok hok hv
  constructor
  · intro hW
    have hp := first_pos hok h0 (fun v => Iff.rfl) (fun v hv => by
        show decide (gi (bridgeW g).a.owner v = 0) = true ↔ (if v < g.a.owner.length then gi g.a.owner v else 0) = 0
        rw [if_pos hv, hown, decide_eq_true_eq]) hE (c := fun v => sg g.a.owner.length (gi g.prio v).toNat) (fun v hv j hj => hcost v hv j (by rw [← hown]; exact hj))
      (fun L t hl a b e => (sign_pos hn1 hl a b).1 (by omega)) (g.a.owner.length + 1) [] v 0 (.nil hv) .nil hW (by simp)
    have hp2 : (1 : Int) * ((gmW (bridgeW g)).val g.a.owner.length v).2 ≤ ((gmW (bridgeW g)).val g.a.owner.length v).1 * g.a.owner.length := hp
    rcases Int.lt_or_le 0 (valF (bridgeW g) v).num with h5 | h5
    · exact h5
    · exfalso
      have h6 : (valF (bridgeW g) v).num * q ≤ 0 := Int.mul_nonpos_of_nonpos_of_nonneg h5 (by omega)
      rw [← hq] at h6
      have h7 : ((gmW (bridgeW g)).val g.a.owner.length v).1 * g.a.owner.length ≤ 0 := Int.mul_nonpos_of_nonpos_of_nonneg h6 (by omega)
      omega
  · intro hW
    have hp := first_pos hok.dual h1 (fun v => Iff.rfl) (fun v hv => by
        show (!decide (gi (bridgeW g).a.owner v = 0)) = true ↔ (if v < g.a.owner.length then gi g.a.owner v else 0) = 1
        rw [if_pos hv, hown]
        rcases ho v hv with e | e <;> rw [e] <;> decide) hE (c := fun v => -sg g.a.owner.length (gi g.prio v).toNat) (fun v hv j hj => by
          show -gi (gl (bridgeW g).cost v) j = _
          rw [hcost v hv j (by rw [← hown]; exact hj)])
      (fun L t hl a b e => (sign_pos hn1 hl a b).2 (by omega)) (g.a.owner.length + 1) [] v 0 (.nil hv) .nil hW (by simp)
    have hp2 : (1 : Int) * ((gmW (bridgeW g)).dual.val g.a.owner.length v).2 ≤ ((gmW (bridgeW g)).dual.val g.a.owner.length v).1 * g.a.owner.length := hp
    rw [Gm.val_dual] at hp2
    have hp3 : (1 : Int) * ((gmW (bridgeW g)).val g.a.owner.length v).2 ≤ -((gmW (bridgeW g)).val g.a.owner.length v).1 * g.a.owner.length := hp2
    rcases Int.lt_or_le (valF (bridgeW g) v).num 0 with h5 | h5
    · exact h5
    · exfalso
      have h6 : 0 ≤ (valF (bridgeW g) v).num * q := Int.mul_nonneg h5 (by omega)
      rw [← hq] at h6
      have h7 : -((gmW (bridgeW g)).val g.a.owner.length v).1 * g.a.owner.length ≤ 0 := Int.mul_nonpos_of_nonpos_of_nonneg (by omega) (by omega)
      omega
end Go.Proofs.Ytdbecmmeifdafaa

namespace Go.Proofs.Ytdbecmmeifdafaa
open Go.RowKit
set_option linter.unusedVariables false
set_option linter.unusedSimpArgs false

end Go.Proofs.Ytdbecmmeifdafaa

namespace Go.Proofs.Ytdbecmmeifdafaa
open Go.RowKit
set_option linter.unusedVariables false
set_option linter.unusedSimpArgs false

end Go.Proofs.Ytdbecmmeifdafaa
