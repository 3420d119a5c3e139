/- costs times a denominator, less a numerator; the credits for a fraction: both sides -/
import Derived.Test.YtdbecmmeifdafaaGPzmb
import Derived.Test.YtdbecmmeifdafaaGKzmb
import Derived.Test.YtdbecmmeifdafaaFkzmb
import Derived.Test.YtdbecmmeifdafaaJ3zmb
import Derived.Test.YtdbecmmeifdafaaGOzmb
namespace Go.Proofs.Ytdbecmmeifdafaa
open Nat renaming reduceMod → zA, reduceMul → zB, reduceDiv → zC, reduceAdd → zD, reduceSub → zE, reduceEqDiff → zF, reduceBEq → zG, reduceLT → zH, reduceLeDiff → zI
open Go.RowKit
set_option linter.unusedVariables false
set_option linter.unusedSimpArgs false

/-- Each cost times the denominator, less the numerator. -/
def scaleG (f : Fr) (c : Int) : Int := c * f.den - f.num
def scaleW (w : Wt) (f : Fr) : Wt := ⟨w.a, w.cost.map (List.map (scaleG f))⟩
theorem scaleG_le {f : Fr} {c : Int} (h1 : -1000 ≤ c ∧ c ≤ 1000) (h2 : -8000 ≤ f.num ∧ f.num ≤ 8000) (h3 : 1 ≤ f.den ∧ f.den ≤ 8) : (-8000 ≤ c * f.den ∧ c * f.den ≤ 8000) ∧ -20000 ≤ scaleG f c ∧ scaleG f c ≤ 20000 := by
  have a1 : c * f.den ≤ 8000 := by
    have : c * f.den ≤ 1000 * f.den := Int.mul_le_mul_of_nonneg_right h1.2 (by omega)
    omega
  have a2 : -8000 ≤ c * f.den := by
    have : -1000 * f.den ≤ c * f.den := Int.mul_le_mul_of_nonneg_right h1.1 (by omega)
    omega
  unfold scaleG
  omega
theorem gl_map {g : List Int → List Int} {xs : List (List Int)} {v : Nat} (h : v < xs.length) : gl (xs.map g) v = g (gl xs v) := by
  unfold gl
  rw [List.getD_eq_getElem?_getD, List.getElem?_map, List.getD_eq_getElem?_getD, List.getElem?_eq_getElem h]
  rfl
theorem scaleW_ok {w : Wt} (h : weightedB w = true) {f : Fr} (h2 : -8000 ≤ f.num ∧ f.num ≤ 8000) (h3 : 1 ≤ f.den ∧ f.den ≤ 8) : WSh (scaleW w f) := by
  obtain ⟨k1, k2, k3, k4, k5, k6⟩ := weighted_facts h
  have hs := wsh_of h
  have hg : ∀ v, v < w.a.owner.length → gl (w.cost.map (List.map (scaleG f))) v = (gl w.cost v).map (scaleG f) := fun v hv => gl_map (by omega)
  refine ⟨k1, k2, k3, k4, by show (w.cost.map _).length = _; rw [List.length_map]; exact k5, fun v hv => ?_, fun v hv j hj => ?_, hs.to, hs.own⟩
  · show (gl (w.cost.map (List.map (scaleG f))) v).length = _ ∧ _
    rw [hg v hv, List.length_map]
    exact hs.row v hv
  · show -20000 ≤ gi (gl (w.cost.map (List.map (scaleG f))) v) j ∧ gi (gl (w.cost.map (List.map (scaleG f))) v) j ≤ 20000
    have hj' : j < (gl w.cost v).length := by rw [(k6 v hv).1]; exact hj
    rw [hg v hv, gi_map hj']
    exact (scaleG_le ((k6 v hv).2.2.2 j hj') h2 h3).2
theorem scaleW_len {w : Wt} {f : Fr} (h : w.Ln 1048576) : (scaleW w f).Ln 1048576 := ⟨h.a, LnII_map h.cost⟩
set_option maxRecDepth 20000 in
set_option maxHeartbeats 4000000 in
theorem scaledBy_fn (w : Wt) (ha : w.Ln 1048576) (f : Fr) (hw : weightedB w = true) (hf2 : -8000 ≤ f.num ∧ f.num ≤ 8000) (hf3 : 1 ≤ f.den ∧ f.den ≤ 8) : FnS Try.prog tyT 75 [.agg (dWt w), .agg (dFr f)] 2 [DII (w.cost.map (List.map (scaleG f)))] := by
  have h0 := ha.a.owner
  have h1 := ha.a.next.1
  have h2 := ha.cost.1
  unfold LnI at h0
  have hcr : ∀ v, (gl w.cost v).length ≤ 1048576 := fun v => gl_le ha.cost v
  obtain ⟨hok, hn1, hn2, hn3, hn4, hrow⟩ := weighted_facts hw
  have hC := copyLists_fn w.cost ha.cost
  unfold dFr
  unfold dWt
  refine FnS_of (fn := Try.f75) (rs := [.cell 4 32]) tyOk tyPos Try.func75 (by kernel_rfl) rfl rfl (by rw [Try.ntmps75]; exact Nat.le_of_ble_eq_true rfl) rfl (by simp only [szA, List.mem_cons, List.not_mem_nil, or_false, forall_eq_or_imp, forall_eq, VT.cells, szL]; try decide) (Nat.le_of_ble_eq_true rfl) ?_
  rw [Try.ntmps75]
  simp only [push_cast, ↓brB_true, ↓brB_false, ↓reduceIte, zA, zB, zC, zD, zE, zF, zG, zH, zI, reduceCtorEq]
  refine awp_seq' fun K hK => ?_
  refine awp_region tyOk tyPos [] rfl ?_
  all_goals simp only [push_cast, ↓brB_true, ↓brB_false, ↓reduceIte, zA, zB, zC, zD, zE, zF, zG, zH, zI, reduceCtorEq]
  all_goals repeat' (first | (apply brB_mk <;> (intro hg; (try simp only [push_cast] at hg))) | apply And.intro | (intro hg; (try simp only [push_cast] at hg)))
  all_goals first | exact True.intro | exact rfl | contradiction | omega | with_reducible assumption | (exact getE_dII (by omega)) | (have h8 := hvi (by omega); have := hcst (by omega); rw [h8]; unfold scaleG at this; omega) | skip
  all_goals first | (refine hK _ ?_; clear hK K) | (simp only [push_cast]; done)
  refine awp_seq' fun K hK => ?_
  refine awp_regionD1 false tyOk tyPos tyMix ?_ rfl ?_
  · kernel_rfl
  intro E hE
  all_goals refine lexF_cut 5 (by decide) fun K9 hK9 => ?_
  all_goals simp only [push_cast, ↓brB_true, ↓brB_false, ↓reduceIte, zA, zB, zC, zD, zE, zF, zG, zH, zI, reduceCtorEq]
  all_goals repeat' (first | (apply brB_mk <;> (intro hg; (try simp only [push_cast] at hg))) | (refine ⟨_, hC, ?_⟩; simp only [push_cast, ↓brB_true, ↓brB_false, ↓reduceIte, zA, zB, zC, zD, zE, zF, zG, zH, zI, reduceCtorEq]) | apply And.intro | (intro hg; (try simp only [push_cast] at hg)))
  all_goals first | exact True.intro | exact rfl | contradiction | omega | with_reducible assumption | (exact getE_dII (by omega)) | (have h8 := hvi (by omega); have := hcst (by omega); rw [h8]; unfold scaleG at this; omega) | skip
  all_goals first | (refine hK9 _ _ ?_; clear hK9 K9) | (simp only [push_cast]; done)
  all_goals simp only [push_cast, ↓brB_true, ↓brB_false, ↓reduceIte, zA, zB, zC, zD, zE, zF, zG, zH, zI, reduceCtorEq]
  all_goals repeat' (first | (apply brB_mk <;> (intro hg; (try simp only [push_cast] at hg))) | (refine ⟨_, hC, ?_⟩; simp only [push_cast, ↓brB_true, ↓brB_false, ↓reduceIte, zA, zB, zC, zD, zE, zF, zG, zH, zI, reduceCtorEq]) | apply And.intro | (intro hg; (try simp only [push_cast] at hg)))
  all_goals first | exact True.intro | exact rfl | contradiction | omega | with_reducible assumption | (refine hE _ _ ?_ ?_; kernel_rfl) | (exact getE_dII (by omega)) | (have h8 := hvi (by omega); have := hcst (by omega); rw [h8]; unfold scaleG at this; omega) | skip
  all_goals clear hE E
  all_goals first | (refine hK _ ?_; clear hK K) | (simp only [push_cast]; done)
  refine awp_seq' fun K1 hK1 => ?_
  refine awp_settleBA [80, 81] [.sl 2, .sl 27, .sl 27] 5 ?_
  simp only [push_cast, ↓brB_true, ↓brB_false, ↓reduceIte, zA, zB, zC, zD, zE, zF, zG, zH, zI, reduceCtorEq]
  refine awp_seq' fun K hK => ?_
  refine awp_region tyOk tyPos [] rfl ?_
  all_goals simp only [push_cast, ↓brB_true, ↓brB_false, ↓reduceIte, zA, zB, zC, zD, zE, zF, zG, zH, zI, reduceCtorEq]
  all_goals repeat' (first | (apply brB_mk <;> (intro hg; (try simp only [push_cast] at hg))) | apply And.intro | (intro hg; (try simp only [push_cast] at hg)))
  all_goals first | exact True.intro | exact rfl | contradiction | omega | with_reducible assumption | (exact getE_dII (by omega)) | (have h8 := hvi (by omega); have := hcst (by omega); rw [h8]; unfold scaleG at this; omega) | skip
  all_goals first | (refine hK _ ?_; clear hK K) | (simp only [push_cast]; done)
  refine awp_block ?_
  refine awp_loopU [5,7,8,18,19,20,21,22,23,24,25,26,27,28,29,30,31,32,33,34,35,36,37,38,39,40,41] [82] (fun (v : Nat) => [(18, .int .i64 v), (5, .bp 5 0)]) (fun v => [(5, [.sl 0 [] 0 w.a.owner.length 2, .sl 1 [] 0 w.a.next.length 27, .sl 82 [] 0 w.cost.length 27])]) (fun v => [(82, ⟨.ex, 27, dII (mapR (scaleG f) w.cost v), none⟩)]) (fun v => v ≤ w.cost.length) (fun v => w.cost.length - v) 0 ?_ (by omega) ?_
  ·
    rw [mapR_0]
    refine cov_of rfl ?_ ?_ ?_ <;> simp only [covS, covL, push_cast, ↓brB_true, ↓brB_false, ↓reduceIte, zA, zB, zC, zD, zE, zF, zG, zH, zI, reduceCtorEq]
  · rintro v hv KL0 hL0
    have hml := mapR_len (g := (scaleG f)) hv
    have hmg : v < w.cost.length → gl (mapR (scaleG f) w.cost v) v = gl w.cost v := fun h => mapR_gl h
    have hrv := hcr v
    have hmgl : v < w.cost.length → (gl (mapR (scaleG f) w.cost v) v).length = (gl w.cost v).length := fun h => by rw [hmg h]
    simp only [push_cast, ↓brB_true, ↓brB_false, ↓reduceIte, zA, zB, zC, zD, zE, zF, zG, zH, zI, reduceCtorEq]
    refine awp_seq' fun K hK => ?_
    refine awp_region tyOk tyPos [] rfl ?_
    all_goals simp only [push_cast, ↓brB_true, ↓brB_false, ↓reduceIte, zA, zB, zC, zD, zE, zF, zG, zH, zI, reduceCtorEq]
    all_goals repeat' (first | (apply brB_mk <;> (intro hg; (try simp only [push_cast] at hg))) | apply And.intro | (intro hg; (try simp only [push_cast] at hg)))
    all_goals first | exact True.intro | exact rfl | contradiction | omega | with_reducible assumption | (exact getE_dII (by omega)) | (have h8 := hvi (by omega); have := hcst (by omega); rw [h8]; unfold scaleG at this; omega) | skip
    all_goals first | (refine hK _ ?_; clear hK K) | (simp only [push_cast]; done)
    refine awp_seq' fun K2 hK2 => ?_
    refine awp_cond rfl (fun hc => ?_) (fun hc => ?_) <;> (try simp only [push_cast] at hc)
    ·
      refine awp_skip ?_
      (try simp only [AThen, ABlk, reduceIte, zF]); refine hK2 _ ?_
      refine awp_seq' fun K3 hK3 => ?_
      refine awp_block ?_
      refine awp_seq' fun K hK => ?_
      refine awp_region tyOk tyPos [] rfl ?_
      all_goals simp only [push_cast, ↓brB_true, ↓brB_false, ↓reduceIte, zA, zB, zC, zD, zE, zF, zG, zH, zI, reduceCtorEq]
      all_goals repeat' (first | (apply brB_mk <;> (intro hg; (try simp only [push_cast] at hg))) | apply And.intro | (intro hg; (try simp only [push_cast] at hg)))
      all_goals first | exact True.intro | exact rfl | contradiction | omega | with_reducible assumption | (exact getE_dII (by omega)) | (have h8 := hvi (by omega); have := hcst (by omega); rw [h8]; unfold scaleG at this; omega) | skip
      all_goals first | (refine hK _ ?_; clear hK K) | (simp only [push_cast]; done)
      refine awp_seq' fun K hK => ?_
      refine awp_region tyOk tyPos [] rfl ?_
      all_goals simp only [push_cast, ↓brB_true, ↓brB_false, ↓reduceIte, zA, zB, zC, zD, zE, zF, zG, zH, zI, reduceCtorEq]
      all_goals repeat' (first | (apply brB_mk <;> (intro hg; (try simp only [push_cast] at hg))) | apply And.intro | (intro hg; (try simp only [push_cast] at hg)))
      all_goals first | exact True.intro | exact rfl | contradiction | omega | with_reducible assumption | (exact getE_dII (by omega)) | (have h8 := hvi (by omega); have := hcst (by omega); rw [h8]; unfold scaleG at this; omega) | skip
      all_goals first | (refine hK _ ?_; clear hK K) | (simp only [push_cast]; done)
      refine awp_block ?_
      refine awp_loopU [5,8,24,25,26,27,28,29,30,31,32,33,34,35,36,37,38,39,40] [82] (fun (k : Nat) => [(24, .int .i64 k), (5, .bp 5 0)]) (fun k => [(5, [.sl 0 [] 0 w.a.owner.length 2, .sl 1 [] 0 w.a.next.length 27, .sl 82 [] 0 w.cost.length 27])]) (fun k => [(82, ⟨.ex, 27, dII (mapV (scaleG f) w.cost v k), none⟩)]) (fun k => k ≤ (gl w.cost v).length) (fun k => (gl w.cost v).length - k) 0 ?_ (by omega) ?_
      ·
        rw [mapV_0 (by omega)]
        refine cov_of rfl ?_ ?_ ?_ <;> simp only [covS, covL, push_cast, ↓brB_true, ↓brB_false, ↓reduceIte, zA, zB, zC, zD, zE, zF, zG, zH, zI, reduceCtorEq]
      · rintro k hk KL1 hL1
        have hvl : (mapV (scaleG f) w.cost v k).length = w.cost.length := mapV_len (by omega)
        have hvg : gl (mapV (scaleG f) w.cost v k) v = mapI (scaleG f) (gl w.cost v) k := mapV_gl (by omega)
        have hil := mapI_len (g := (scaleG f)) hk
        have hvl2 : (gl (mapV (scaleG f) w.cost v k) v).length = (gl w.cost v).length := by rw [hvg, hil]
        have hvi : k < (gl w.cost v).length → gi (gl (mapV (scaleG f) w.cost v k) v) k = gi (gl w.cost v) k := fun h => by rw [hvg]; exact mapI_gi h
        have hig : k < (gl w.cost v).length → gi (mapI (scaleG f) (gl w.cost v) k) k = gi (gl w.cost v) k := fun h => mapI_gi h
        have hcst : k < (gl w.cost v).length → _ := fun h => scaleG_le (f := f) ((hrow v (by omega)).2.2.2 k h) hf2 hf3
        simp only [push_cast, ↓brB_true, ↓brB_false, ↓reduceIte, zA, zB, zC, zD, zE, zF, zG, zH, zI, reduceCtorEq]
        refine awp_seq' fun K hK => ?_
        refine awp_region tyOk tyPos [] rfl ?_
        all_goals simp only [push_cast, ↓brB_true, ↓brB_false, ↓reduceIte, zA, zB, zC, zD, zE, zF, zG, zH, zI, reduceCtorEq]
        all_goals repeat' (first | (apply brB_mk <;> (intro hg; (try simp only [push_cast] at hg))) | apply And.intro | (intro hg; (try simp only [push_cast] at hg)))
        all_goals first | exact True.intro | exact rfl | contradiction | omega | with_reducible assumption | (exact getE_dII (by omega)) | (have h8 := hvi (by omega); have := hcst (by omega); rw [h8]; unfold scaleG at this; omega) | skip
        all_goals first | (refine hK _ ?_; clear hK K) | (simp only [push_cast]; done)
        refine awp_seq' fun K4 hK4 => ?_
        refine awp_cond rfl (fun hc => ?_) (fun hc => ?_) <;> (try simp only [push_cast] at hc)
        ·
          refine awp_skip ?_
          (try simp only [AThen, ABlk, reduceIte, zF]); refine hK4 _ ?_
          refine awp_seq' fun K5 hK5 => ?_
          refine awp_block ?_
          refine awp_seq' fun K hK => ?_
          refine awp_region tyOk tyPos [] rfl ?_
          all_goals simp only [push_cast, ↓brB_true, ↓brB_false, ↓reduceIte, zA, zB, zC, zD, zE, zF, zG, zH, zI, reduceCtorEq]
          all_goals repeat' (first | (apply brB_mk <;> (intro hg; (try simp only [push_cast] at hg))) | apply And.intro | (intro hg; (try simp only [push_cast] at hg)))
          all_goals first | exact True.intro | exact rfl | contradiction | omega | with_reducible assumption | (exact getE_dII (by omega)) | (have h8 := hvi (by omega); have := hcst (by omega); rw [h8]; unfold scaleG at this; omega) | skip
          all_goals first | (refine hK _ ?_; clear hK K) | (simp only [push_cast]; done)
          refine awp_regionD1 false tyOk tyPos tyMix ?_ rfl ?_
          · kernel_rfl
          intro E hE
          all_goals simp only [push_cast, ↓brB_true, ↓brB_false, ↓reduceIte, zA, zB, zC, zD, zE, zF, zG, zH, zI, reduceCtorEq]
          all_goals repeat' (first | (apply brB_mk <;> (intro hg; (try simp only [push_cast] at hg))) | apply And.intro | (intro hg; (try simp only [push_cast] at hg)))
          all_goals first | exact True.intro | exact rfl | contradiction | omega | with_reducible assumption | (refine hE _ _ ?_ ?_; kernel_rfl) | (exact getE_dII (by omega)) | (have h8 := hvi (by omega); have := hcst (by omega); rw [h8]; unfold scaleG at this; omega) | skip
          all_goals clear hE E
          (try simp only [AThen, ABlk, reduceIte, zF]); refine hK5 _ ?_
          refine awp_region tyOk tyPos [] rfl ?_
          all_goals simp only [push_cast, ↓brB_true, ↓brB_false, ↓reduceIte, zA, zB, zC, zD, zE, zF, zG, zH, zI, reduceCtorEq]
          all_goals repeat' (first | (apply brB_mk <;> (intro hg; (try simp only [push_cast] at hg))) | apply And.intro | (intro hg; (try simp only [push_cast] at hg)))
          all_goals first | exact True.intro | exact rfl | contradiction | omega | with_reducible assumption | (exact getE_dII (by omega)) | (have h8 := hvi (by omega); have := hcst (by omega); rw [h8]; unfold scaleG at this; omega) | skip
          have e9 : gi (gl (mapV (scaleG f) w.cost v k) v) k = gi (gl w.cost v) k := hvi (by omega)
          rw [setAt_dII _ _ _ _ (by omega)]
          rw [e9, show gi (gl w.cost v) k * f.den - f.num = scaleG f (gi (gl w.cost v) k) from rfl, mapV_set (by omega) (by omega)]
          refine hL1 _ ⟨k + 1, by omega, by omega, ?_⟩
          refine cov_of rfl ?_ ?_ ?_ <;> simp only [covS, covL, push_cast, ↓brB_true, ↓brB_false, ↓reduceIte, zA, zB, zC, zD, zE, zF, zG, zH, zI, reduceCtorEq]
        ·
          refine awp_exit ?_
          have hkk : k = (gl w.cost v).length := by omega
          subst hkk
          (try simp only [AThen, ABlk, reduceIte, zF]); refine hK3 _ ?_
          refine awp_region tyOk tyPos [] rfl ?_
          all_goals simp only [push_cast, ↓brB_true, ↓brB_false, ↓reduceIte, zA, zB, zC, zD, zE, zF, zG, zH, zI, reduceCtorEq]
          all_goals repeat' (first | (apply brB_mk <;> (intro hg; (try simp only [push_cast] at hg))) | apply And.intro | (intro hg; (try simp only [push_cast] at hg)))
          all_goals first | exact True.intro | exact rfl | contradiction | omega | with_reducible assumption | (exact getE_dII (by omega)) | (have h8 := hvi (by omega); have := hcst (by omega); rw [h8]; unfold scaleG at this; omega) | skip
          refine hL0 _ ⟨v + 1, by omega, by omega, ?_⟩
          rw [mapV_all (by omega)]
          refine cov_of rfl ?_ ?_ ?_ <;> simp only [covS, covL, push_cast, ↓brB_true, ↓brB_false, ↓reduceIte, zA, zB, zC, zD, zE, zF, zG, zH, zI, reduceCtorEq]
    ·
      refine awp_exit ?_
      have hkv : v = w.cost.length := by omega
      subst hkv
      rw [mapR_all]
      (try simp only [AThen, ABlk, reduceIte, zF]); refine hK1 _ ?_
      refine awp_seq' fun K hK => ?_
      refine awp_region tyOk tyPos [64, 65] rfl ?_
      simp only [push_cast, ↓brB_true, ↓brB_false, ↓reduceIte, zA, zB, zC, zD, zE, zF, zG, zH, zI, reduceCtorEq]
      repeat' apply And.intro
      all_goals first | exact True.intro | exact rfl | omega | with_reducible assumption | (simp only [List.length_set, List.length_append, List.length_replicate, List.length_cons, List.length_nil]; omega) | skip
      all_goals first | (refine hK _ ?_; clear hK K) | (simp only [push_cast]; done)
      refine awp_ret ?_
      (try simp only [AThen, ABlk])
      refine ⟨Or.inl rfl, ?_⟩
      simp only [RetS, resVars, resVar, shOk, push_cast, ↓brB_true, ↓brB_false, ↓reduceIte, zA, zB, zC, zD, zE, zF, zG, zH, zI, reduceCtorEq]
      all_goals first | rfl | (simp; done)
end Go.Proofs.Ytdbecmmeifdafaa
