/- the plan by the values: both sides -/
import Derived.Test.YtdbecmmeifdafaaSczmb
import Derived.Test.YtdbecmmeifdafaaMwzmb
import Derived.Test.YtdbecmmeifdafaaPlzmb
namespace Go.Proofs.Ytdbecmmeifdafaa
open Nat renaming reduceMod → zA, reduceMul → zB, reduceDiv → zC, reduceAdd → zD, reduceSub → zE, reduceEqDiff → zF, reduceBEq → zG, reduceLT → zH, reduceLeDiff → zI
open Go.RowKit
set_option linter.unusedVariables false
set_option linter.unusedSimpArgs false

def crL (w : Wt) (C : Nat → List Int) (v : Nat) : List Int := (C v).map (decB (boundW (scaleW w (gf (meansL w) v))))
def mpL (w : Wt) (C : Nat → List Int) (v : Nat) : List Int := planN (scaleW w (gf (meansL w) v)) (crL w C v) w.a.owner.length
def mpAt (w : Wt) (C : Nat → List Int) (v : Nat) : Int := gi (mpL w C v) v
theorem mpL_len (w : Wt) (C : Nat → List Int) (v : Nat) : (mpL w C v).length = w.a.owner.length := planN_len ..
theorem mpL_gi (w : Wt) (C : Nat → List Int) (v : Nat) : gi (mpL w C v) v = mpAt w C v := rfl
theorem planN_gi {w : Wt} {s : List Int} {k v : Nat} (h : v < k) : gi (planN w s k) v = planAt w s v := by
  unfold gi planN
  rw [List.getD_eq_getElem?_getD, List.getElem?_map, List.getElem?_range h]
  rfl
theorem mpAt_no {w : Wt} {C : Nat → List Int} {v : Nat} (hv : v < w.a.owner.length) (h : ¬ gi w.a.owner v = 0) : mpAt w C v = -1 := by
  unfold mpAt mpL
  rw [planN_gi hv]
  exact planAt_no fun h9 => h h9.1
def mpN (w : Wt) (C : Nat → List Int) (k : Nat) : List Int := (List.range k).map (mpAt w C)
theorem mpN_len (w : Wt) (C : Nat → List Int) (k : Nat) : (mpN w C k).length = k := by simp [mpN]
theorem mpN_s (w : Wt) (C : Nat → List Int) (k : Nat) : mpN w C (k + 1) = mpN w C k ++ [mpAt w C k] := by simp [mpN, List.range_succ]
def mpO (w : Wt) (C : Nat → List Int) (n k : Nat) : List Int := mpN w C k ++ List.replicate (n - k) (-1)
theorem mpO_len {w : Wt} {C : Nat → List Int} {n k : Nat} (h : k ≤ n) : (mpO w C n k).length = n := by unfold mpO; rw [List.length_append, mpN_len, List.length_replicate]; omega
theorem mpO_0 (w : Wt) (C : Nat → List Int) (n : Nat) : mpO w C n 0 = List.replicate n (-1) := by simp [mpO, mpN]
theorem mpO_n (w : Wt) (C : Nat → List Int) (n : Nat) : mpO w C n n = mpN w C n := by simp [mpO]
theorem mpO_set {w : Wt} {C : Nat → List Int} {n k : Nat} (h : k < n) : (mpO w C n k).set k (mpAt w C k) = mpO w C n (k + 1) := by
  unfold mpO
  rw [List.set_append_right _ _ (by rw [mpN_len]; exact Nat.le_refl _), mpN_len, Nat.sub_self, show n - k = (n - (k + 1)) + 1 from by omega, List.replicate_succ, List.set_cons_zero, mpN_s, List.append_assoc]
  rfl
theorem mpO_keep {w : Wt} {C : Nat → List Int} {n k : Nat} (h : k < n) (h2 : mpAt w C k = -1) : mpO w C n (k + 1) = mpO w C n k := by
  unfold mpO
  rw [show n - k = (n - (k + 1)) + 1 from by omega, List.replicate_succ, mpN_s, h2, List.append_assoc]
  rfl
def mpRes (w : Wt) (C : Nat → List Int) : List Int := if meanB w then mpN w C w.a.owner.length else []
theorem mpRes_no {w : Wt} {C : Nat → List Int} (h : meanB w = false) : mpRes w C = [] := by unfold mpRes; rw [h]; rfl
theorem mpRes_yes {w : Wt} {C : Nat → List Int} (h : meanB w = true) : mpRes w C = mpN w C w.a.owner.length := by unfold mpRes; rw [h]; rfl
theorem mpRes_len {w : Wt} {C : Nat → List Int} : LnI 1048576 (mpRes w C) := by
  unfold mpRes LnI
  split
  · rename_i e
    rw [mpN_len]
    have := (wmn_of e).n8
    omega
  · simp
def MpL (w : Wt) (C : Nat → List Int) : Prop := meanB w = true → ∀ v, v < w.a.owner.length → Least (scaleW w (gf (meansL w) v)) (boundW (scaleW w (gf (meansL w) v))) (C v)
theorem gfm_ok {w : Wt} (h : meanB w = true) {v : Nat} (hv : v < w.a.owner.length) : (-8000 ≤ (gf (meansL w) v).num ∧ (gf (meansL w) v).num ≤ 8000) ∧ 1 ≤ (gf (meansL w) v).den ∧ (gf (meansL w) v).den ≤ 8 := by
  rw [gf_means hv]
  exact (valF_ok (wmn_of h) hv).2
theorem gfm_sh {w : Wt} (h : meanB w = true) {v : Nat} (hv : v < w.a.owner.length) : WSh (scaleW w (gf (meansL w) v)) := by
  have := gfm_ok h hv
  exact scaleW_ok (meanB_ok h) this.1 this.2
theorem mp_ex (w : Wt) : ∃ C, MpL w C := by
  have h : ∀ v, ∃ c, meanB w = true → v < w.a.owner.length → Least (scaleW w (gf (meansL w) v)) (boundW (scaleW w (gf (meansL w) v))) c := fun v => by
    by_cases h : meanB w = true ∧ v < w.a.owner.length
    · have hs := gfm_sh h.1 h.2
      obtain ⟨c, hc⟩ := least_ex hs hs.bound.1
      exact ⟨c, fun _ _ => hc⟩
    · exact ⟨[], fun h1 h2 => absurd ⟨h1, h2⟩ h⟩
  exact ⟨fun v => (h v).choose, fun h1 v hv => (h v).choose_spec h1 hv⟩
theorem crL_ok {w : Wt} {C : Nat → List Int} (hC : MpL w C) (h : meanB w = true) {v : Nat} (hv : v < w.a.owner.length) : (crL w C v).length = w.a.owner.length ∧ ∀ u, u < w.a.owner.length → -1 ≤ gi (crL w C v) u ∧ gi (crL w C v) u ≤ 460001 := by
  have h1 := hC h v hv
  have h2 := (gfm_sh h hv).bound
  have h3 : (C v).length = w.a.owner.length := h1.len
  unfold crL
  refine ⟨by rw [List.length_map]; exact h3, fun u hu => ?_⟩
  rw [gi_map (by omega)]
  have := decB_rg h2.1 (h1.rg u hu)
  omega
set_option maxRecDepth 20000 in
set_option maxHeartbeats 8000000 in
theorem MeanPlanI_fn (w : Wt) (ha : w.Ln 1048576) (C : Nat → List Int) (hCC : MpL w C) : Fn Try.prog tyT 27 [.agg (dWt w)] [.c (DI (mpRes w C))] := by
  have hA := isMean_fn w ha
  have hO := fun h => meanOf_fn w ha (wmn_of h)
  have hN := noPlan_fn w.a ha.a
  have hml := meansL_len w
  have hw8 := fun h => (wmn_of (w := w) h).n8
  have hrl2 : (List.replicate w.a.owner.length (-1 : Int)).length = w.a.owner.length := List.length_replicate ..
  have hS : ∀ v, meanB w = true → v < w.a.owner.length → FnS Try.prog tyT 75 [.agg [DI w.a.owner, DII w.a.next, DII w.cost], .agg [D.int .i64 (gf (meansL w) v).num, D.int .i64 (gf (meansL w) v).den]] 2 [DII (w.cost.map (List.map (scaleG (gf (meansL w) v))))] := fun v h hv => scaledBy_fn w ha (gf (meansL w) v) (meanB_ok h) (gfm_ok h hv).1 (gfm_ok h hv).2
  have hP : ∀ v, meanB w = true → v < w.a.owner.length → Fn Try.prog tyT 60 [.agg [DI w.a.owner, DII w.a.next, DII (w.cost.map (List.map (scaleG (gf (meansL w) v))))]] [.c (DI (mpL w C v))] := fun v h hv => creditPlanI_fn (scaleW w (gf (meansL w) v)) (scaleW_len ha) (gfm_sh h hv) _ rfl (C v) (hCC h v hv)
  unfold dAr at hN
  unfold dWt at hA hO ⊢
  refine Fn_of (fn := Try.f27) (ts := [2]) Try.func27 (by kernel_rfl) rfl rfl (by rw [Try.ntmps27]; exact Nat.le_of_ble_eq_true rfl) rfl (by simp only [szA, List.mem_cons, List.not_mem_nil, or_false, forall_eq_or_imp, forall_eq, VT.cells, szL]; try decide) ?_
  rw [Try.ntmps27]
  simp only [push_cast, ↓brB_true, ↓brB_false, ↓reduceIte, zA, zB, zC, zD, zE, zF, zG, zH, zI, reduceCtorEq]
  refine awp_seq' fun K hK => ?_
  refine awp_region tyOk tyPos [] rfl ?_
  all_goals simp only [push_cast, ↓brB_true, ↓brB_false, ↓reduceIte, zA, zB, zC, zD, zE, zF, zG, zH, zI, reduceCtorEq]
  all_goals repeat' (first | (apply brB_mk <;> (intro hg; (try simp only [push_cast] at hg))) | apply And.intro | (intro hg; (try simp only [push_cast] at hg)))
  all_goals first | exact True.intro | exact rfl | contradiction | omega | with_reducible assumption | (exact getE_dII (by omega)) | skip
  all_goals first | (refine hK _ ?_; clear hK K) | (simp only [push_cast]; done)
  refine awp_seq' fun K1 hK1 => ?_
  refine awp_seq' fun K hK => ?_
  refine awp_region tyOk tyPos [] rfl ?_
  all_goals refine aops_cut 2 fun K9 hK9 => ?_
  all_goals simp only [push_cast, ↓brB_true, ↓brB_false, ↓reduceIte, zA, zB, zC, zD, zE, zF, zG, zH, zI, reduceCtorEq]
  all_goals repeat' (first | (apply brB_mk <;> (intro hg; (try simp only [push_cast] at hg))) | (refine ⟨_, hA, ?_⟩; simp only [push_cast, ↓brB_true, ↓brB_false, ↓reduceIte, zA, zB, zC, zD, zE, zF, zG, zH, zI, reduceCtorEq]) | apply And.intro | (intro hg; (try simp only [push_cast] at hg)))
  all_goals first | exact True.intro | exact rfl | contradiction | omega | with_reducible assumption | (exact getE_dII (by omega)) | skip
  all_goals first | (refine hK9 _ ?_; clear hK9 K9) | (simp only [push_cast]; done)
  all_goals simp only [push_cast, ↓brB_true, ↓brB_false, ↓reduceIte, zA, zB, zC, zD, zE, zF, zG, zH, zI, reduceCtorEq]
  all_goals repeat' (first | (apply brB_mk <;> (intro hg; (try simp only [push_cast] at hg))) | (refine ⟨_, hA, ?_⟩; simp only [push_cast, ↓brB_true, ↓brB_false, ↓reduceIte, zA, zB, zC, zD, zE, zF, zG, zH, zI, reduceCtorEq]) | apply And.intro | (intro hg; (try simp only [push_cast] at hg)))
  all_goals first | exact True.intro | exact rfl | contradiction | omega | with_reducible assumption | (exact getE_dII (by omega)) | skip
  all_goals first | (refine hK _ ?_; clear hK K) | (simp only [push_cast]; done)
  refine awp_cond rfl (fun hc => ?_) (fun hc => ?_) <;> (try simp only [push_cast] at hc)
  ·
    refine awp_seq' fun K hK => ?_
    refine awp_region tyOk tyPos [] rfl ?_
    all_goals simp only [push_cast, ↓brB_true, ↓brB_false, ↓reduceIte, zA, zB, zC, zD, zE, zF, zG, zH, zI, reduceCtorEq]
    all_goals repeat' (first | (apply brB_mk <;> (intro hg; (try simp only [push_cast] at hg))) | apply And.intro | (intro hg; (try simp only [push_cast] at hg)))
    all_goals first | exact True.intro | exact rfl | contradiction | omega | with_reducible assumption | (exact getE_dII (by omega)) | skip
    all_goals first | (refine hK _ ?_; clear hK K) | (simp only [push_cast]; done)
    refine awp_ret ?_
    (try simp only [AThen, ABlk])
    refine ⟨Or.inl rfl, ?_⟩
    simp only [RetOk, push_cast, ↓brB_true, ↓brB_false, ↓reduceIte, zA, zB, zC, zD, zE, zF, zG, zH, zI, reduceCtorEq]
    rw [mpRes_no (by with_reducible assumption)]
    all_goals first | rfl | exact ⟨rfl, rfl⟩ | (simp [dI]; done)
  ·
    refine awp_skip ?_
    (try simp only [AThen, ABlk, reduceIte, zF]); refine hK1 _ ?_
    refine awp_seq' fun K hK => ?_
    refine awp_region tyOk tyPos [] rfl ?_
    all_goals refine aops_cut 2 fun K9 hK9 => ?_
    all_goals simp only [push_cast, ↓brB_true, ↓brB_false, ↓reduceIte, zA, zB, zC, zD, zE, zF, zG, zH, zI, reduceCtorEq]
    all_goals repeat' (first | (apply brB_mk <;> (intro hg; (try simp only [push_cast] at hg))) | (refine ⟨_, hO (by with_reducible assumption), ?_⟩; simp only [push_cast, ↓brB_true, ↓brB_false, ↓reduceIte, zA, zB, zC, zD, zE, zF, zG, zH, zI, reduceCtorEq]) | apply And.intro | (intro hg; (try simp only [push_cast] at hg)))
    all_goals first | exact True.intro | exact rfl | contradiction | omega | with_reducible assumption | (exact getE_dII (by omega)) | skip
    all_goals first | (refine hK9 _ ?_; clear hK9 K9) | (simp only [push_cast]; done)
    all_goals simp only [push_cast, ↓brB_true, ↓brB_false, ↓reduceIte, zA, zB, zC, zD, zE, zF, zG, zH, zI, reduceCtorEq]
    all_goals repeat' (first | (apply brB_mk <;> (intro hg; (try simp only [push_cast] at hg))) | (refine ⟨_, hO (by with_reducible assumption), ?_⟩; simp only [push_cast, ↓brB_true, ↓brB_false, ↓reduceIte, zA, zB, zC, zD, zE, zF, zG, zH, zI, reduceCtorEq]) | apply And.intro | (intro hg; (try simp only [push_cast] at hg)))
    all_goals first | exact True.intro | exact rfl | contradiction | omega | with_reducible assumption | (exact getE_dII (by omega)) | skip
    all_goals first | (refine hK _ ?_; clear hK K) | (simp only [push_cast]; done)
    have hmb : meanB w = true := by with_reducible assumption
    have hm8 := hw8 hmb
    refine awp_seq' fun K hK => ?_
    refine awp_region tyOk tyPos [] rfl ?_
    all_goals refine aops_cut 3 fun K9 hK9 => ?_
    all_goals simp only [push_cast, ↓brB_true, ↓brB_false, ↓reduceIte, zA, zB, zC, zD, zE, zF, zG, zH, zI, reduceCtorEq]
    all_goals repeat' (first | (apply brB_mk <;> (intro hg; (try simp only [push_cast] at hg))) | (refine ⟨_, hN, ?_⟩; simp only [push_cast, ↓brB_true, ↓brB_false, ↓reduceIte, zA, zB, zC, zD, zE, zF, zG, zH, zI, reduceCtorEq]) | apply And.intro | (intro hg; (try simp only [push_cast] at hg)))
    all_goals first | exact True.intro | exact rfl | contradiction | omega | with_reducible assumption | (exact getE_dII (by omega)) | skip
    all_goals first | (refine hK9 _ ?_; clear hK9 K9) | (simp only [push_cast]; done)
    all_goals simp only [push_cast, ↓brB_true, ↓brB_false, ↓reduceIte, zA, zB, zC, zD, zE, zF, zG, zH, zI, reduceCtorEq]
    all_goals repeat' (first | (apply brB_mk <;> (intro hg; (try simp only [push_cast] at hg))) | (refine ⟨_, hN, ?_⟩; simp only [push_cast, ↓brB_true, ↓brB_false, ↓reduceIte, zA, zB, zC, zD, zE, zF, zG, zH, zI, reduceCtorEq]) | apply And.intro | (intro hg; (try simp only [push_cast] at hg)))
    all_goals first | exact True.intro | exact rfl | contradiction | omega | with_reducible assumption | (exact getE_dII (by omega)) | skip
    all_goals first | (refine hK _ ?_; clear hK K) | (simp only [push_cast]; done)
    refine awp_seq' fun K2 hK2 => ?_
    refine awp_seq' fun K hK => ?_
    refine awp_region tyOk tyPos [] rfl ?_
    all_goals simp only [push_cast, ↓brB_true, ↓brB_false, ↓reduceIte, zA, zB, zC, zD, zE, zF, zG, zH, zI, reduceCtorEq]
    all_goals repeat' (first | (apply brB_mk <;> (intro hg; (try simp only [push_cast] at hg))) | apply And.intro | (intro hg; (try simp only [push_cast] at hg)))
    all_goals first | exact True.intro | exact rfl | contradiction | omega | with_reducible assumption | (exact getE_dII (by omega)) | skip
    all_goals first | (refine hK _ ?_; clear hK K) | (simp only [push_cast]; done)
    refine awp_block ?_
    refine awp_loopU [5,6,17,18,19,20,21,22,23,24,25,26,27,28,29,30,31,32,33,34,35,36,37,38,39] [64] (fun (v : Nat) => [(17, .int .i64 v)]) (fun v => []) (fun v => [(64, ⟨.ex, 2, dI (mpO w C w.a.owner.length v), none⟩)]) (fun v => v ≤ w.a.owner.length) (fun v => w.a.owner.length - v) 0 ?_ (by omega) ?_
    ·
      rw [mpO_0]
      refine cov_of rfl ?_ ?_ ?_ <;> simp only [covS, covL, push_cast, ↓brB_true, ↓brB_false, ↓reduceIte, zA, zB, zC, zD, zE, zF, zG, zH, zI, reduceCtorEq]
    · rintro v hv KL0 hL0
      have hpl := mpO_len (w := w) (C := C) hv
      have hpL := mpL_len w C v
      have hcL : meanB w = true → v < w.a.owner.length → (crL w C v).length = w.a.owner.length := fun h1 h2 => (crL_ok hCC h1 h2).1
      simp only [push_cast, ↓brB_true, ↓brB_false, ↓reduceIte, zA, zB, zC, zD, zE, zF, zG, zH, zI, reduceCtorEq]
      refine awp_seq' fun K hK => ?_
      refine awp_region tyOk tyPos [] rfl ?_
      all_goals simp only [push_cast, ↓brB_true, ↓brB_false, ↓reduceIte, zA, zB, zC, zD, zE, zF, zG, zH, zI, reduceCtorEq]
      all_goals repeat' (first | (apply brB_mk <;> (intro hg; (try simp only [push_cast] at hg))) | apply And.intro | (intro hg; (try simp only [push_cast] at hg)))
      all_goals first | exact True.intro | exact rfl | contradiction | omega | with_reducible assumption | (exact getE_dII (by omega)) | skip
      all_goals first | (refine hK _ ?_; clear hK K) | (simp only [push_cast]; done)
      refine awp_seq' fun K3 hK3 => ?_
      refine awp_cond rfl (fun hc => ?_) (fun hc => ?_) <;> (try simp only [push_cast] at hc)
      ·
        refine awp_skip ?_
        (try simp only [AThen, ABlk, reduceIte, zF]); refine hK3 _ ?_
        refine awp_seq' fun K4 hK4 => ?_
        refine awp_block ?_
        refine awp_seq' fun K hK => ?_
        refine awp_region tyOk tyPos [] rfl ?_
        all_goals simp only [push_cast, ↓brB_true, ↓brB_false, ↓reduceIte, zA, zB, zC, zD, zE, zF, zG, zH, zI, reduceCtorEq]
        all_goals repeat' (first | (apply brB_mk <;> (intro hg; (try simp only [push_cast] at hg))) | apply And.intro | (intro hg; (try simp only [push_cast] at hg)))
        all_goals first | exact True.intro | exact rfl | contradiction | omega | with_reducible assumption | (exact getE_dII (by omega)) | skip
        all_goals first | (refine hK _ ?_; clear hK K) | (simp only [push_cast]; done)
        refine awp_seq' fun K hK => ?_
        refine awp_region tyOk tyPos [] rfl ?_
        all_goals simp only [push_cast, ↓brB_true, ↓brB_false, ↓reduceIte, zA, zB, zC, zD, zE, zF, zG, zH, zI, reduceCtorEq]
        all_goals repeat' (first | (apply brB_mk <;> (intro hg; (try simp only [push_cast] at hg))) | apply And.intro | (intro hg; (try simp only [push_cast] at hg)))
        all_goals first | exact True.intro | exact rfl | contradiction | omega | with_reducible assumption | (exact getE_dII (by omega)) | skip
        all_goals first | (refine hK _ ?_; clear hK K) | (simp only [push_cast]; done)
        refine awp_cond rfl (fun hc => ?_) (fun hc => ?_) <;> (try simp only [push_cast] at hc)
        ·
          refine awp_regionS 33 tyOk tyPos [] rfl ?_
          simp only [push_cast, ↓brB_true, ↓brB_false, ↓reduceIte, zA, zB, zC, zD, zE, zF, zG, zH, zI, reduceCtorEq]
          all_goals repeat' (first | (apply brB_mk <;> (intro hg; (try simp only [push_cast] at hg))) | (refine ⟨_, _, hS v hmb (by omega), ?_⟩; simp only [push_cast, ↓brB_true, ↓brB_false, ↓reduceIte, zA, zB, zC, zD, zE, zF, zG, zH, zI, reduceCtorEq]) | (refine ⟨_, hP v hmb (by omega), ?_⟩; simp only [push_cast, ↓brB_true, ↓brB_false, ↓reduceIte, zA, zB, zC, zD, zE, zF, zG, zH, zI, reduceCtorEq]) | apply And.intro | (intro hg; (try simp only [push_cast] at hg)))
          all_goals first | exact True.intro | exact rfl | contradiction | omega | with_reducible assumption | (exact getE_dII (by omega)) | skip
          (try simp only [AThen, ABlk, reduceIte, zF]); refine hK4 _ ?_
          refine awp_region tyOk tyPos [] rfl ?_
          all_goals simp only [push_cast, ↓brB_true, ↓brB_false, ↓reduceIte, zA, zB, zC, zD, zE, zF, zG, zH, zI, reduceCtorEq]
          all_goals repeat' (first | (apply brB_mk <;> (intro hg; (try simp only [push_cast] at hg))) | apply And.intro | (intro hg; (try simp only [push_cast] at hg)))
          all_goals first | exact True.intro | exact rfl | contradiction | omega | with_reducible assumption | (exact getE_dII (by omega)) | skip
          refine hL0 _ ⟨v + 1, by omega, by omega, ?_⟩
          rw [mpL_gi, mpO_set (by omega)]
          refine cov_of rfl ?_ ?_ ?_ <;> simp only [covS, covL, push_cast, ↓brB_true, ↓brB_false, ↓reduceIte, zA, zB, zC, zD, zE, zF, zG, zH, zI, reduceCtorEq]
        ·
          refine awp_skip ?_
          (try simp only [AThen, ABlk, reduceIte, zF]); refine hK4 _ ?_
          refine awp_region tyOk tyPos [] rfl ?_
          all_goals simp only [push_cast, ↓brB_true, ↓brB_false, ↓reduceIte, zA, zB, zC, zD, zE, zF, zG, zH, zI, reduceCtorEq]
          all_goals repeat' (first | (apply brB_mk <;> (intro hg; (try simp only [push_cast] at hg))) | apply And.intro | (intro hg; (try simp only [push_cast] at hg)))
          all_goals first | exact True.intro | exact rfl | contradiction | omega | with_reducible assumption | (exact getE_dII (by omega)) | skip
          refine hL0 _ ⟨v + 1, by omega, by omega, ?_⟩
          rw [mpO_keep (by omega) (mpAt_no (by omega) (by omega))]
          refine cov_of rfl ?_ ?_ ?_ <;> simp only [covS, covL, push_cast, ↓brB_true, ↓brB_false, ↓reduceIte, zA, zB, zC, zD, zE, zF, zG, zH, zI, reduceCtorEq]
      ·
        refine awp_exit ?_
        have hkv : v = w.a.owner.length := by omega
        subst hkv
        rw [mpO_n]
        (try simp only [AThen, ABlk, reduceIte, zF]); refine hK2 _ ?_
        refine awp_seq' fun K hK => ?_
        refine awp_region tyOk tyPos [] rfl ?_
        all_goals simp only [push_cast, ↓brB_true, ↓brB_false, ↓reduceIte, zA, zB, zC, zD, zE, zF, zG, zH, zI, reduceCtorEq]
        all_goals repeat' (first | (apply brB_mk <;> (intro hg; (try simp only [push_cast] at hg))) | apply And.intro | (intro hg; (try simp only [push_cast] at hg)))
        all_goals first | exact True.intro | exact rfl | contradiction | omega | with_reducible assumption | (exact getE_dII (by omega)) | skip
        all_goals first | (refine hK _ ?_; clear hK K) | (simp only [push_cast]; done)
        refine awp_ret ?_
        (try simp only [AThen, ABlk])
        refine ⟨Or.inl rfl, ?_⟩
        simp only [RetOk, push_cast, ↓brB_true, ↓brB_false, ↓reduceIte, zA, zB, zC, zD, zE, zF, zG, zH, zI, reduceCtorEq]
        rw [mpRes_yes hmb]
        all_goals first | rfl | exact ⟨rfl, rfl⟩ | exact (mpN_len _ _ _).symm | exact ⟨rfl, (mpN_len _ _ _).symm⟩ | exact ⟨rfl, by rw [mpN_len]; exact hrl2⟩ | (constructor <;> first | rfl | with_reducible assumption | (simp; done)) | (rw [mpN_len]; done)
end Go.Proofs.Ytdbecmmeifdafaa
