/- lists of pairs of lists: the data, the laws' helpers -/
import Derived.Test.YtklconkoamoabaaB6zrd
import Derived.Test.YtklconkoamoabaaGDzrd
namespace Go.Proofs.Ytklconkoamoabaa
open Nat renaming reduceMod → zA, reduceMul → zB, reduceDiv → zC, reduceAdd → zD, reduceSub → zE, reduceEqDiff → zF, reduceBEq → zG, reduceLT → zH, reduceLeDiff → zI
open Go.RowKit
set_option linter.unusedVariables false
set_option linter.unusedSimpArgs false

def ilv (ps : List Pr) : List (List Int) := ps.flatMap fun p => [p.ask, p.give]
def gp (ps : List Pr) (k : Nat) : Pr := ps.getD k ⟨[], []⟩
theorem ilv_cons (p : Pr) (ps : List Pr) : ilv (p :: ps) = p.ask :: p.give :: ilv ps := rfl
theorem m2d (n : Nat) : n * 2 / 2 = n := by omega
theorem len_ilv (ps : List Pr) : (ilv ps).length = ps.length * 2 := by
  induction ps with
  | nil => rfl
  | cons p ps ih => rw [ilv_cons, List.length_cons, List.length_cons, ih, List.length_cons]; omega
theorem gl_ilv0 (ps : List Pr) (k : Nat) : gl (ilv ps) (k * 2) = (gp ps k).ask := by
  induction ps generalizing k with
  | nil => rfl
  | cons p ps ih =>
    cases k with
    | zero => rfl
    | succ k => rw [show (k + 1) * 2 = k * 2 + 1 + 1 from by omega, ilv_cons]; exact ih k
theorem gl_ilv1 (ps : List Pr) (k : Nat) : gl (ilv ps) (k * 2 + 1) = (gp ps k).give := by
  induction ps generalizing k with
  | nil => rfl
  | cons p ps ih =>
    cases k with
    | zero => rfl
    | succ k => rw [show (k + 1) * 2 + 1 = k * 2 + 1 + 1 + 1 from by omega, ilv_cons]; exact ih k
theorem gp_lt {ps : List Pr} {k : Nat} (h : k < ps.length) : ps[k]? = some (gp ps k) := by
  unfold gp
  rw [List.getD_eq_getElem?_getD, List.getElem?_eq_getElem h]
  rfl
theorem gp_mem {ps : List Pr} {k : Nat} (h : k < ps.length) : gp ps k ∈ ps := List.mem_of_getElem? (gp_lt h)
theorem tk_snocP {ps : List Pr} {k : Nat} (h : k < ps.length) : ps.take (k + 1) = ps.take k ++ [gp ps k] := by rw [List.take_add_one, gp_lt h]; rfl
attribute [push_cast] m2d len_ilv gl_ilv0 gl_ilv1
def cP (ps : List Pr) : Nat := sumL (ilv ps)
theorem ilv_app (ps qs : List Pr) : ilv (ps ++ qs) = ilv ps ++ ilv qs := List.flatMap_append ..
theorem cP_take {ps : List Pr} {k : Nat} (h : k < ps.length) : cP (ps.take (k + 1)) = cP (ps.take k) + (gp ps k).tot := by
  unfold cP Pr.tot
  rw [tk_snocP h, ilv_app, sumL_append]
  simp [ilv, sumL]
theorem cP_take_le (ps : List Pr) (k : Nat) : cP (ps.take k) ≤ cP ps := by
  have h := List.take_append_drop k ps
  have h2 : cP (ps.take k ++ ps.drop k) = cP (ps.take k) + cP (ps.drop k) := by unfold cP; rw [ilv_app, sumL_append]
  rw [h] at h2
  omega
theorem take_ilv (ps : List Pr) (k : Nat) : (ilv ps).take (k * 2) = ilv (ps.take k) := by
  induction ps generalizing k with
  | nil => simp [ilv]
  | cons p ps ih =>
    cases k with
    | zero => simp [ilv]
    | succ k => rw [show (k + 1) * 2 = k * 2 + 1 + 1 from by omega, ilv_cons, List.take_succ_cons, List.take_succ_cons, ih, List.take_succ_cons, ilv_cons]
theorem drop_ilv (ps : List Pr) (k : Nat) : (ilv ps).drop (k * 2) = ilv (ps.drop k) := by
  induction ps generalizing k with
  | nil => simp [ilv]
  | cons p ps ih =>
    cases k with
    | zero => simp [ilv]
    | succ k => rw [show (k + 1) * 2 = k * 2 + 1 + 1 from by omega, ilv_cons, List.drop_succ_cons, List.drop_succ_cons, ih, List.drop_succ_cons]
theorem take_ilvA (ps : List Pr) : (ilv ps).take (ps.length * 2) = ilv ps := List.take_of_length_le (by rw [len_ilv]; exact Nat.le_refl _)
attribute [push_cast] take_ilvA
def PLn (B : Nat) (ps : List Pr) : Prop := ps.length ≤ B ∧ ∀ p ∈ ps, p.Ln B
def totP (ps : List Pr) : Nat := ps.length + cP ps
theorem gp_le {B : Nat} {ps : List Pr} (h : PLn B ps) (k : Nat) : (gp ps k).Ln B := by
  rcases Nat.lt_or_ge k ps.length with hk | hk
  · exact h.2 _ (gp_mem hk)
  · unfold gp
    rw [List.getD_eq_getElem?_getD, List.getElem?_eq_none hk]
    exact ⟨Nat.zero_le _, Nat.zero_le _⟩
theorem cP_mem {ps : List Pr} {p : Pr} (h : p ∈ ps) : p.tot ≤ cP ps := by
  induction ps with
  | nil => simp at h
  | cons q ps ih =>
    have e : cP (q :: ps) = q.tot + cP ps := by unfold cP Pr.tot; rw [ilv_cons]; simp [sumL]; omega
    rcases List.mem_cons.1 h with rfl | h
    · omega
    · have := ih h; omega
theorem PLn_of {B : Nat} {ps : List Pr} (h : totP ps ≤ B) : PLn B ps := by
  unfold totP at h
  exact ⟨by omega, fun p hp => Pr.ln_of (by have := cP_mem hp; omega)⟩
theorem PLn.mono {B C : Nat} (hB : B ≤ C) {ps : List Pr} (h : PLn B ps) : PLn C ps := ⟨Nat.le_trans h.1 hB, fun p hp => Pr.ln_mono hB (h.2 p hp)⟩
def preP (ps : List Pr) (k : Nat) : List Pr := ps.take k ++ List.replicate (ps.length - k) ⟨[], []⟩
theorem preP_len {ps : List Pr} {k : Nat} (h : k ≤ ps.length) : (preP ps k).length = ps.length := by simp [preP]; omega
theorem preP_all (ps : List Pr) : preP ps ps.length = ps := by simp [preP]
theorem preP_set {ps : List Pr} {k : Nat} (h : k < ps.length) : (preP ps k).set k (gp ps k) = preP ps (k + 1) := by
  have hk : (ps.take k).length = k := by rw [List.length_take]; omega
  unfold preP
  rw [List.set_append_right _ _ (by omega), hk, Nat.sub_self, show ps.length - k = (ps.length - (k + 1)) + 1 from by omega, List.replicate_succ, List.set_cons_zero, tk_snocP h, List.append_assoc]
  rfl
theorem preP_0 (ps : List Pr) : (List.replicate ps.length [D.lst 2 [], D.lst 2 []]).flatten = dII (ilv (preP ps 0)) := by
  unfold preP
  rw [Nat.sub_zero, List.take_zero, List.nil_append]
  generalize ps.length = n
  induction n with
  | zero => rfl
  | succ n ih => rw [List.replicate_succ, List.flatten_cons, ih, List.replicate_succ, ilv_cons]; rfl
theorem lay2_ilv {ps : List Pr} {k : Nat} {x y : List Int} (h : k < ps.length) : dII (List.take (k * 2) (ilv ps)) ++ [D.lst 2 (dI x), D.lst 2 (dI y)] ++ dII (List.drop (k * 2 + 2) (ilv ps)) = dII (ilv (ps.set k ⟨x, y⟩)) := by
  rw [show k * 2 + 2 = (k + 1) * 2 from by omega, take_ilv, drop_ilv, List.set_eq_take_append_cons_drop, if_pos h, ilv_app, ilv_cons]
  simp [dII]
theorem sumT {ps : List Pr} {j : Nat} (h : j < ps.length) : sumL ((ilv ps).take (j * 2 + 1)) = sumL ((ilv ps).take (j * 2)) + (gp ps j).ask.length ∧ sumL ((ilv ps).take ((j + 1) * 2)) = sumL ((ilv ps).take (j * 2)) + (gp ps j).ask.length + (gp ps j).give.length := by
  have h1 := sumL_take (rs := ilv ps) (j := j * 2) (by rw [len_ilv]; omega)
  have h2 := sumL_take (rs := ilv ps) (j := j * 2 + 1) (by rw [len_ilv]; omega)
  rw [gl_ilv0] at h1
  rw [gl_ilv1] at h2
  rw [show (j + 1) * 2 = j * 2 + 1 + 1 from by omega]
  omega
theorem mkPg0 {ps : List Pr} {k : Int} {j : Nat} (h : j < ps.length) : gl (mk2 k (ilv ps) (j * 2)) (j * 2) = (gp ps j).ask := by rw [mk2_gl (by rw [len_ilv]; omega), gl_ilv0]
theorem mkPg1 {ps : List Pr} {k : Int} {j : Nat} (h : j < ps.length) : gl (mk2 k (ilv ps) (j * 2 + 1)) (j * 2 + 1) = (gp ps j).give := by rw [mk2_gl (by rw [len_ilv]; omega), gl_ilv1]
theorem mkP0 {ps : List Pr} {k : Int} {j : Nat} (h : j < ps.length) : (mk2 k (ilv ps) (j * 2)).set (j * 2) (iot (k + sumL ((ilv ps).take (j * 2))) (gp ps j).ask.length) = mk2 k (ilv ps) (j * 2 + 1) := by
  have := mk2_set (k := k) (rs := ilv ps) (j := j * 2) (by rw [len_ilv]; omega)
  rw [gl_ilv0] at this
  exact this
theorem mkP1 {ps : List Pr} {k : Int} {j : Nat} (h : j < ps.length) : (mk2 k (ilv ps) (j * 2 + 1)).set (j * 2 + 1) (iot (k + sumL ((ilv ps).take (j * 2)) + (gp ps j).ask.length) (gp ps j).give.length) = mk2 k (ilv ps) ((j + 1) * 2) := by
  have := mk2_set (k := k) (rs := ilv ps) (j := j * 2 + 1) (by rw [len_ilv]; omega)
  rw [gl_ilv1, (sumT h).1] at this
  rw [show (j + 1) * 2 = j * 2 + 1 + 1 from by omega, ← this]
  congr 2
  omega
def lz (l : Int) (ps : List Pr) (k : Nat) : Int := l - ps.length - cP (ps.take k)
theorem lz_0 (l : Int) (ps : List Pr) : lz l ps 0 = l - ps.length := by unfold lz; rw [List.take_zero, show cP [] = 0 from rfl]; omega
theorem lz_s {l : Int} {ps : List Pr} {k : Nat} (h : k < ps.length) : lz l ps (k + 1) = lz l ps k - (gp ps k).tot := by unfold lz; rw [cP_take h]; omega
theorem lz_all (l : Int) (ps : List Pr) : lz l ps ps.length = l - totP ps := by unfold lz totP; rw [List.take_length]; omega
theorem lz_ge (l : Int) (ps : List Pr) (k : Nat) : l - totP ps ≤ lz l ps k ∧ lz l ps k ≤ l := by have := cP_take_le ps k; unfold lz totP; omega
theorem szl_lt {l : Int} {t : Nat} (hl : 0 ≤ l) (h : szl l t < 0) : l < t := by
  by_cases h9 : l < t
  · exact h9
  · rw [szl_pos h9] at h; omega
theorem szl_ge {l : Int} {t : Nat} (h : ¬ szl l t < 0) : ¬ l < t := fun h9 => h (by rw [szl_neg h9]; omega)
set_option maxRecDepth 20000 in
set_option maxHeartbeats 4000000 in
theorem szPS_fn (ps : List Pr) (l : Int) (h0 : 0 ≤ l) (h1 : l ≤ 1048576) (ha : PLn 9223372036854775807 ps) : Fn Try.prog tyT 33 [.c (.lst 95 (dII (ilv ps))), .c (.int .i64 l)] [.c (.int .i64 (szl l (totP ps)))] := by
  have hl := ha.1
  have hQ := fun k (m : Int) (g1 : 0 ≤ m) (g2 : m ≤ 1048576) => szPr_fn (gp ps k) m g1 g2 (gp_le ha k)
  unfold dPr at hQ
  refine Fn_of (fn := Try.f33) (ts := [4]) Try.func33 (by kernel_rfl) rfl rfl (by rw [Try.ntmps33]; exact Nat.le_of_ble_eq_true rfl) rfl (by simp only [szA, List.mem_cons, List.not_mem_nil, or_false, forall_eq_or_imp, forall_eq, VT.cells, szL]; try decide) ?_
  rw [Try.ntmps33]
  simp only [push_cast, ↓brB_true, ↓brB_false, ↓reduceIte, zA, zB, zC, zD, zE, zF, zG, zH, zI, reduceCtorEq]
  refine awp_seq' fun K hK => ?_
  refine awp_region tyOk tyPos [] rfl ?_
  all_goals simp only [push_cast, ↓brB_true, ↓brB_false, ↓reduceIte, zA, zB, zC, zD, zE, zF, zG, zH, zI, reduceCtorEq]
  all_goals repeat' (first | (apply brB_mk <;> (intro hg; (try simp only [push_cast] at hg))) | apply And.intro | (intro hg; (try simp only [push_cast] at hg)))
  all_goals first | exact gA | (exact getE_dII (by simp only [push_cast]; omega)) | skip
  all_goals first | (refine hK _ ?_; clear hK K) | (simp only [push_cast]; done)
  refine awp_seq' fun K hK => ?_
  refine awp_region tyOk tyPos [] rfl ?_
  all_goals simp only [push_cast, ↓brB_true, ↓brB_false, ↓reduceIte, zA, zB, zC, zD, zE, zF, zG, zH, zI, reduceCtorEq]
  all_goals repeat' (first | (apply brB_mk <;> (intro hg; (try simp only [push_cast] at hg))) | apply And.intro | (intro hg; (try simp only [push_cast] at hg)))
  all_goals first | exact gA | (exact getE_dII (by simp only [push_cast]; omega)) | skip
  all_goals first | (refine hK _ ?_; clear hK K) | (simp only [push_cast]; done)
  refine awp_seq' fun K1 hK1 => ?_
  refine awp_seq' fun K hK => ?_
  refine awp_region tyOk tyPos [] rfl ?_
  all_goals simp only [push_cast, ↓brB_true, ↓brB_false, ↓reduceIte, zA, zB, zC, zD, zE, zF, zG, zH, zI, reduceCtorEq]
  all_goals repeat' (first | (apply brB_mk <;> (intro hg; (try simp only [push_cast] at hg))) | apply And.intro | (intro hg; (try simp only [push_cast] at hg)))
  all_goals first | exact gA | (exact getE_dII (by simp only [push_cast]; omega)) | skip
  all_goals first | (refine hK _ ?_; clear hK K) | (simp only [push_cast]; done)
  refine awp_cond rfl (fun hc => ?_) (fun hc => ?_) <;> (try simp only [push_cast] at hc)
  ·
    refine awp_seq' fun K hK => ?_
    refine awp_region tyOk tyPos [] rfl ?_
    all_goals simp only [push_cast, ↓brB_true, ↓brB_false, ↓reduceIte, zA, zB, zC, zD, zE, zF, zG, zH, zI, reduceCtorEq]
    all_goals repeat' (first | (apply brB_mk <;> (intro hg; (try simp only [push_cast] at hg))) | apply And.intro | (intro hg; (try simp only [push_cast] at hg)))
    all_goals first | exact gA | (exact getE_dII (by simp only [push_cast]; omega)) | skip
    all_goals first | (refine hK _ ?_; clear hK K) | (simp only [push_cast]; done)
    refine awp_ret ?_
    (try simp only [AThen, ABlk])
    refine ⟨Or.inl rfl, ?_⟩
    simp only [RetOk, push_cast, ↓brB_true, ↓brB_false, ↓reduceIte, zA, zB, zC, zD, zE, zF, zG, zH, zI, reduceCtorEq]
    rw [szl_neg (by unfold totP; omega)]
  ·
    refine awp_skip ?_
    (try simp only [AThen, ABlk, reduceIte, zF]); refine hK1 _ ?_
    refine awp_seq' fun K2 hK2 => ?_
    refine awp_seq' fun K hK => ?_
    refine awp_region tyOk tyPos [] rfl ?_
    all_goals simp only [push_cast, ↓brB_true, ↓brB_false, ↓reduceIte, zA, zB, zC, zD, zE, zF, zG, zH, zI, reduceCtorEq]
    all_goals repeat' (first | (apply brB_mk <;> (intro hg; (try simp only [push_cast] at hg))) | apply And.intro | (intro hg; (try simp only [push_cast] at hg)))
    all_goals first | exact gA | (exact getE_dII (by simp only [push_cast]; omega)) | skip
    all_goals first | (refine hK _ ?_; clear hK K) | (simp only [push_cast]; done)
    refine awp_block ?_
    refine awp_loopU [1,4,5,12,13,14,15,16,17,18,19,20,21,22,23,24,25] [] (fun (k : Nat) => [(5, .int .i64 k), (1, .int .i64 (lz l ps k))]) (fun k => []) (fun k => []) (fun k => k ≤ ps.length ∧ 0 ≤ lz l ps k) (fun k => ps.length - k) 0 ?_ ⟨by omega, by rw [lz_0]; omega⟩ ?_
    ·
      rw [lz_0]
      refine cov_of rfl ?_ ?_ ?_ <;> simp only [covS, covL, push_cast, ↓brB_true, ↓brB_false, ↓reduceIte, zA, zB, zC, zD, zE, zF, zG, zH, zI, reduceCtorEq]
    · rintro k ⟨hk, hm⟩ KL0 hL0
      have hlz := lz_ge l ps k
      simp only [push_cast, ↓brB_true, ↓brB_false, ↓reduceIte, zA, zB, zC, zD, zE, zF, zG, zH, zI, reduceCtorEq]
      refine awp_seq' fun K3 hK3 => ?_
      refine awp_seq' fun K hK => ?_
      refine awp_region tyOk tyPos [] rfl ?_
      all_goals simp only [push_cast, ↓brB_true, ↓brB_false, ↓reduceIte, zA, zB, zC, zD, zE, zF, zG, zH, zI, reduceCtorEq]
      all_goals repeat' (first | (apply brB_mk <;> (intro hg; (try simp only [push_cast] at hg))) | apply And.intro | (intro hg; (try simp only [push_cast] at hg)))
      all_goals first | exact gA | (exact getE_dII (by simp only [push_cast]; omega)) | skip
      all_goals first | (refine hK _ ?_; clear hK K) | (simp only [push_cast]; done)
      refine awp_cond rfl (fun hc => ?_) (fun hc => ?_) <;> (try simp only [push_cast] at hc)
      ·
        refine awp_skip ?_
        (try simp only [AThen, ABlk, reduceIte, zF]); refine hK3 _ ?_
        refine awp_seq' fun K4 hK4 => ?_
        refine awp_block ?_
        refine awp_seq' fun K hK => ?_
        refine awp_region tyOk tyPos [] rfl ?_
        all_goals refine aops_cut 6 fun K9 hK9 => ?_
        all_goals simp only [push_cast, ↓brB_true, ↓brB_false, ↓reduceIte, zA, zB, zC, zD, zE, zF, zG, zH, zI, reduceCtorEq]
        all_goals repeat' (first | (apply brB_mk <;> (intro hg; (try simp only [push_cast] at hg))) | (refine ⟨_, hQ k (lz l ps k) (by omega) (by omega), ?_⟩; simp only [push_cast, ↓brB_true, ↓brB_false, ↓reduceIte, zA, zB, zC, zD, zE, zF, zG, zH, zI, reduceCtorEq]) | apply And.intro | (intro hg; (try simp only [push_cast] at hg)))
        all_goals first | exact gA | (exact getE_dII (by simp only [push_cast]; omega)) | skip
        all_goals first | (refine hK9 _ ?_; clear hK9 K9) | (simp only [push_cast]; done)
        all_goals simp only [push_cast, ↓brB_true, ↓brB_false, ↓reduceIte, zA, zB, zC, zD, zE, zF, zG, zH, zI, reduceCtorEq]
        all_goals repeat' (first | (apply brB_mk <;> (intro hg; (try simp only [push_cast] at hg))) | (refine ⟨_, hQ k (lz l ps k) (by omega) (by omega), ?_⟩; simp only [push_cast, ↓brB_true, ↓brB_false, ↓reduceIte, zA, zB, zC, zD, zE, zF, zG, zH, zI, reduceCtorEq]) | apply And.intro | (intro hg; (try simp only [push_cast] at hg)))
        all_goals first | exact gA | (exact getE_dII (by simp only [push_cast]; omega)) | skip
        all_goals first | (refine hK _ ?_; clear hK K) | (simp only [push_cast]; done)
        refine awp_seq' fun K hK => ?_
        refine awp_region tyOk tyPos [] rfl ?_
        all_goals simp only [push_cast, ↓brB_true, ↓brB_false, ↓reduceIte, zA, zB, zC, zD, zE, zF, zG, zH, zI, reduceCtorEq]
        all_goals repeat' (first | (apply brB_mk <;> (intro hg; (try simp only [push_cast] at hg))) | apply And.intro | (intro hg; (try simp only [push_cast] at hg)))
        all_goals first | exact gA | (exact getE_dII (by simp only [push_cast]; omega)) | skip
        all_goals first | (refine hK _ ?_; clear hK K) | (simp only [push_cast]; done)
        refine awp_cond rfl (fun hc => ?_) (fun hc => ?_) <;> (try simp only [push_cast] at hc)
        ·
          refine awp_seq' fun K hK => ?_
          refine awp_region tyOk tyPos [] rfl ?_
          all_goals simp only [push_cast, ↓brB_true, ↓brB_false, ↓reduceIte, zA, zB, zC, zD, zE, zF, zG, zH, zI, reduceCtorEq]
          all_goals repeat' (first | (apply brB_mk <;> (intro hg; (try simp only [push_cast] at hg))) | apply And.intro | (intro hg; (try simp only [push_cast] at hg)))
          all_goals first | exact gA | (exact getE_dII (by simp only [push_cast]; omega)) | skip
          all_goals first | (refine hK _ ?_; clear hK K) | (simp only [push_cast]; done)
          refine awp_ret ?_
          (try simp only [AThen, ABlk])
          refine ⟨Or.inl rfl, ?_⟩
          simp only [RetOk, push_cast, ↓brB_true, ↓brB_false, ↓reduceIte, zA, zB, zC, zD, zE, zF, zG, zH, zI, reduceCtorEq]
          have h8 := szl_lt hm hc
          have h7 := lz_ge l ps (k + 1)
          rw [lz_s (by omega)] at h7
          rw [szl_neg (by omega)]
        ·
          refine awp_skip ?_
          (try simp only [AThen, ABlk, reduceIte, zF]); refine hK4 _ ?_
          refine awp_region tyOk tyPos [] rfl ?_
          all_goals simp only [push_cast, ↓brB_true, ↓brB_false, ↓reduceIte, zA, zB, zC, zD, zE, zF, zG, zH, zI, reduceCtorEq]
          all_goals repeat' (first | (apply brB_mk <;> (intro hg; (try simp only [push_cast] at hg))) | apply And.intro | (intro hg; (try simp only [push_cast] at hg)))
          all_goals first | exact gA | (exact getE_dII (by simp only [push_cast]; omega)) | skip
          refine hL0 _ ⟨k + 1, ⟨by omega, by rw [lz_s (by omega)]; have := szl_ge hc; omega⟩, by omega, ?_⟩
          rw [szl_pos (szl_ge hc), ← lz_s (by omega)]
          refine cov_of rfl ?_ ?_ ?_ <;> simp only [covS, covL, push_cast, ↓brB_true, ↓brB_false, ↓reduceIte, zA, zB, zC, zD, zE, zF, zG, zH, zI, reduceCtorEq]
      ·
        refine awp_exit ?_
        have hkk : k = ps.length := by omega
        subst hkk
        rw [lz_all]
        rw [lz_all] at hm
        (try simp only [AThen, ABlk, reduceIte, zF]); refine hK2 _ ?_
        refine awp_seq' fun K hK => ?_
        refine awp_region tyOk tyPos [] rfl ?_
        all_goals simp only [push_cast, ↓brB_true, ↓brB_false, ↓reduceIte, zA, zB, zC, zD, zE, zF, zG, zH, zI, reduceCtorEq]
        all_goals repeat' (first | (apply brB_mk <;> (intro hg; (try simp only [push_cast] at hg))) | apply And.intro | (intro hg; (try simp only [push_cast] at hg)))
        all_goals first | exact gA | (exact getE_dII (by simp only [push_cast]; omega)) | skip
        all_goals first | (refine hK _ ?_; clear hK K) | (simp only [push_cast]; done)
        refine awp_ret ?_
        (try simp only [AThen, ABlk])
        refine ⟨Or.inl rfl, ?_⟩
        simp only [RetOk, push_cast, ↓brB_true, ↓brB_false, ↓reduceIte, zA, zB, zC, zD, zE, zF, zG, zH, zI, reduceCtorEq]
        rw [szl_pos (by omega)]
set_option maxRecDepth 20000 in
set_option maxHeartbeats 4000000 in
theorem toPS_fn (ps : List Pr) (ha : PLn 1048576 ps) : Fn Try.prog tyT 35 [.c (.lst 95 (dII (ilv ps)))] [.c (.lst 99 (dII (ilv ps)))] := by
  have hl := ha.1
  have hQ := fun k => toPr_fn (gp ps k) (gp_le ha k)
  unfold dPr at hQ
  refine Fn_of (fn := Try.f35) (ts := [2]) Try.func35 (by kernel_rfl) rfl rfl (by rw [Try.ntmps35]; exact Nat.le_of_ble_eq_true rfl) rfl (by simp only [szA, List.mem_cons, List.not_mem_nil, or_false, forall_eq_or_imp, forall_eq, VT.cells, szL]; try decide) ?_
  rw [Try.ntmps35]
  simp only [push_cast, ↓brB_true, ↓brB_false, ↓reduceIte, zA, zB, zC, zD, zE, zF, zG, zH, zI, reduceCtorEq]
  refine awp_seq' fun K hK => ?_
  refine awp_region tyOk tyPos [] rfl ?_
  all_goals simp only [push_cast, ↓brB_true, ↓brB_false, ↓reduceIte, zA, zB, zC, zD, zE, zF, zG, zH, zI, reduceCtorEq]
  all_goals repeat' (first | (apply brB_mk <;> (intro hg; (try simp only [push_cast] at hg))) | apply And.intro | (intro hg; (try simp only [push_cast] at hg)))
  all_goals first | exact gA | (exact getE_dII (by simp only [push_cast]; omega)) | skip
  all_goals first | (refine hK _ ?_; clear hK K) | (simp only [push_cast]; done)
  refine awp_seq' fun K hK => ?_
  refine awp_region tyOk tyPos [] rfl ?_
  all_goals simp only [push_cast, ↓brB_true, ↓brB_false, ↓reduceIte, zA, zB, zC, zD, zE, zF, zG, zH, zI, reduceCtorEq]
  all_goals repeat' (first | (apply brB_mk <;> (intro hg; (try simp only [push_cast] at hg))) | apply And.intro | (intro hg; (try simp only [push_cast] at hg)))
  all_goals first | exact gA | (exact getE_dII (by simp only [push_cast]; omega)) | skip
  all_goals first | (refine hK _ ?_; clear hK K) | (simp only [push_cast]; done)
  refine awp_seq' fun K1 hK1 => ?_
  refine awp_seq' fun K hK => ?_
  refine awp_region tyOk tyPos [] rfl ?_
  all_goals simp only [push_cast, ↓brB_true, ↓brB_false, ↓reduceIte, zA, zB, zC, zD, zE, zF, zG, zH, zI, reduceCtorEq]
  all_goals repeat' (first | (apply brB_mk <;> (intro hg; (try simp only [push_cast] at hg))) | apply And.intro | (intro hg; (try simp only [push_cast] at hg)))
  all_goals first | exact gA | (exact getE_dII (by simp only [push_cast]; omega)) | skip
  all_goals first | (refine hK _ ?_; clear hK K) | (simp only [push_cast]; done)
  refine awp_block ?_
  refine awp_loopU [3,4,8,9,10,11,12,13,14,15,16,17,18,19,20,21] [48] (fun (k : Nat) => [(4, .int .i64 k), (3, .sl 48 [] 0 ps.length 99)]) (fun k => []) (fun k => [(48, ⟨.ex, 99, dII (ilv (preP ps k)), none⟩)]) (fun k => k ≤ ps.length) (fun k => ps.length - k) 0 ?_ (by omega) ?_
  ·
    rw [preP_0]
    refine cov_of rfl ?_ ?_ ?_ <;> simp only [covS, covL, push_cast, ↓brB_true, ↓brB_false, ↓reduceIte, zA, zB, zC, zD, zE, zF, zG, zH, zI, reduceCtorEq]
  · rintro k hk KL0 hL0
    have hpl := preP_len hk
    simp only [push_cast, ↓brB_true, ↓brB_false, ↓reduceIte, zA, zB, zC, zD, zE, zF, zG, zH, zI, reduceCtorEq]
    refine awp_seq' fun K2 hK2 => ?_
    refine awp_seq' fun K hK => ?_
    refine awp_region tyOk tyPos [] rfl ?_
    all_goals simp only [push_cast, ↓brB_true, ↓brB_false, ↓reduceIte, zA, zB, zC, zD, zE, zF, zG, zH, zI, reduceCtorEq]
    all_goals repeat' (first | (apply brB_mk <;> (intro hg; (try simp only [push_cast] at hg))) | apply And.intro | (intro hg; (try simp only [push_cast] at hg)))
    all_goals first | exact gA | (exact getE_dII (by simp only [push_cast]; omega)) | skip
    all_goals first | (refine hK _ ?_; clear hK K) | (simp only [push_cast]; done)
    refine awp_cond rfl (fun hc => ?_) (fun hc => ?_) <;> (try simp only [push_cast] at hc)
    ·
      refine awp_skip ?_
      (try simp only [AThen, ABlk, reduceIte, zF]); refine hK2 _ ?_
      refine awp_seq' fun K3 hK3 => ?_
      refine awp_block ?_
      refine awp_regionN true tyOk tyPos ?_ rfl ?_
      · kernel_rfl
      simp only [push_cast, ↓brB_true, ↓brB_false, ↓reduceIte, zA, zB, zC, zD, zE, zF, zG, zH, zI, reduceCtorEq]
      all_goals repeat' (first | (apply brB_mk <;> (intro hg; (try simp only [push_cast] at hg))) | (refine ⟨_, hQ k, ?_⟩; simp only [push_cast, ↓brB_true, ↓brB_false, ↓reduceIte, zA, zB, zC, zD, zE, zF, zG, zH, zI, reduceCtorEq]) | apply And.intro | (intro hg; (try simp only [push_cast] at hg)))
      all_goals first | exact gA | (exact getE_dII (by simp only [push_cast]; omega)) | skip
      (try simp only [AThen, ABlk, reduceIte, zF]); refine hK3 _ ?_
      refine awp_region tyOk tyPos [] rfl ?_
      all_goals simp only [push_cast, ↓brB_true, ↓brB_false, ↓reduceIte, zA, zB, zC, zD, zE, zF, zG, zH, zI, reduceCtorEq]
      all_goals repeat' (first | (apply brB_mk <;> (intro hg; (try simp only [push_cast] at hg))) | apply And.intro | (intro hg; (try simp only [push_cast] at hg)))
      all_goals first | exact gA | (exact getE_dII (by simp only [push_cast]; omega)) | skip
      refine hL0 _ ⟨k + 1, by omega, by omega, ?_⟩
      rw [lay2_ilv (by omega), preP_set (by omega)]
      refine cov_of rfl ?_ ?_ ?_ <;> simp only [covS, covL, push_cast, ↓brB_true, ↓brB_false, ↓reduceIte, zA, zB, zC, zD, zE, zF, zG, zH, zI, reduceCtorEq]
    ·
      refine awp_exit ?_
      have hkk : k = ps.length := by omega
      subst hkk
      rw [preP_all]
      (try simp only [AThen, ABlk, reduceIte, zF]); refine hK1 _ ?_
      refine awp_seq' fun K hK => ?_
      refine awp_region tyOk tyPos [] rfl ?_
      all_goals simp only [push_cast, ↓brB_true, ↓brB_false, ↓reduceIte, zA, zB, zC, zD, zE, zF, zG, zH, zI, reduceCtorEq]
      all_goals repeat' (first | (apply brB_mk <;> (intro hg; (try simp only [push_cast] at hg))) | apply And.intro | (intro hg; (try simp only [push_cast] at hg)))
      all_goals first | exact gA | (exact getE_dII (by simp only [push_cast]; omega)) | skip
      all_goals first | (refine hK _ ?_; clear hK K) | (simp only [push_cast]; done)
      refine awp_ret ?_
      (try simp only [AThen, ABlk])
      refine ⟨Or.inl rfl, ?_⟩
      simp only [RetOk, push_cast, ↓brB_true, ↓brB_false, ↓reduceIte, zA, zB, zC, zD, zE, zF, zG, zH, zI, reduceCtorEq]
set_option maxRecDepth 20000 in
set_option maxHeartbeats 4000000 in
theorem eqPS_fn (ps : List Pr) (ha : PLn 1048576 ps) : Fn Try.prog tyT 37 [.c (.lst 99 (dII (ilv ps))), .c (.lst 99 (dII (ilv ps)))] [.c (.bool true)] := by
  have hl := ha.1
  have hQ := fun k => eqPr_fn (gp ps k) (gp_le ha k)
  unfold dPr at hQ
  refine Fn_of (fn := Try.f37) (ts := [4]) Try.func37 (by kernel_rfl) rfl rfl (by rw [Try.ntmps37]; exact Nat.le_of_ble_eq_true rfl) rfl (by simp only [szA, List.mem_cons, List.not_mem_nil, or_false, forall_eq_or_imp, forall_eq, VT.cells, szL]; try decide) ?_
  rw [Try.ntmps37]
  simp only [push_cast, ↓brB_true, ↓brB_false, ↓reduceIte, zA, zB, zC, zD, zE, zF, zG, zH, zI, reduceCtorEq]
  refine awp_seq' fun K hK => ?_
  refine awp_region tyOk tyPos [] rfl ?_
  all_goals simp only [push_cast, ↓brB_true, ↓brB_false, ↓reduceIte, zA, zB, zC, zD, zE, zF, zG, zH, zI, reduceCtorEq]
  all_goals repeat' (first | (apply brB_mk <;> (intro hg; (try simp only [push_cast] at hg))) | apply And.intro | (intro hg; (try simp only [push_cast] at hg)))
  all_goals first | exact gA | (exact getE_dII (by simp only [push_cast]; omega)) | skip
  all_goals first | (refine hK _ ?_; clear hK K) | (simp only [push_cast]; done)
  refine awp_seq' fun K1 hK1 => ?_
  refine awp_seq' fun K hK => ?_
  refine awp_region tyOk tyPos [] rfl ?_
  all_goals simp only [push_cast, ↓brB_true, ↓brB_false, ↓reduceIte, zA, zB, zC, zD, zE, zF, zG, zH, zI, reduceCtorEq]
  all_goals repeat' (first | (apply brB_mk <;> (intro hg; (try simp only [push_cast] at hg))) | apply And.intro | (intro hg; (try simp only [push_cast] at hg)))
  all_goals first | exact gA | (exact getE_dII (by simp only [push_cast]; omega)) | skip
  all_goals first | (refine hK _ ?_; clear hK K) | (simp only [push_cast]; done)
  refine awp_cond rfl (fun hc => ?_) (fun hc => ?_)
  skip
  · exfalso; first | (cases hc; done) | (simp only [push_cast] at hc; done) | (simp only [push_cast] at hc; omega) | omega
  refine awp_skip ?_
  (try simp only [AThen, ABlk, reduceIte, zF]); refine hK1 _ ?_
  refine awp_seq' fun K2 hK2 => ?_
  refine awp_seq' fun K hK => ?_
  refine awp_region tyOk tyPos [] rfl ?_
  all_goals simp only [push_cast, ↓brB_true, ↓brB_false, ↓reduceIte, zA, zB, zC, zD, zE, zF, zG, zH, zI, reduceCtorEq]
  all_goals repeat' (first | (apply brB_mk <;> (intro hg; (try simp only [push_cast] at hg))) | apply And.intro | (intro hg; (try simp only [push_cast] at hg)))
  all_goals first | exact gA | (exact getE_dII (by simp only [push_cast]; omega)) | skip
  all_goals first | (refine hK _ ?_; clear hK K) | (simp only [push_cast]; done)
  refine awp_block ?_
  refine awp_loopU [4,5,11,12,13,14,15,16,17,18,19,20,21,22,23,24,25,26] [] (fun (k : Nat) => [(5, .int .i64 k)]) (fun k => []) (fun k => []) (fun k => k ≤ ps.length) (fun k => ps.length - k) 0 ?_ (by omega) ?_
  ·
    refine cov_of rfl ?_ ?_ ?_ <;> simp only [covS, covL, push_cast, ↓brB_true, ↓brB_false, ↓reduceIte, zA, zB, zC, zD, zE, zF, zG, zH, zI, reduceCtorEq]
  · rintro k hk KL0 hL0
    simp only [push_cast, ↓brB_true, ↓brB_false, ↓reduceIte, zA, zB, zC, zD, zE, zF, zG, zH, zI, reduceCtorEq]
    refine awp_seq' fun K3 hK3 => ?_
    refine awp_seq' fun K hK => ?_
    refine awp_region tyOk tyPos [] rfl ?_
    all_goals simp only [push_cast, ↓brB_true, ↓brB_false, ↓reduceIte, zA, zB, zC, zD, zE, zF, zG, zH, zI, reduceCtorEq]
    all_goals repeat' (first | (apply brB_mk <;> (intro hg; (try simp only [push_cast] at hg))) | apply And.intro | (intro hg; (try simp only [push_cast] at hg)))
    all_goals first | exact gA | (exact getE_dII (by simp only [push_cast]; omega)) | skip
    all_goals first | (refine hK _ ?_; clear hK K) | (simp only [push_cast]; done)
    refine awp_cond rfl (fun hc => ?_) (fun hc => ?_) <;> (try simp only [push_cast] at hc)
    ·
      refine awp_skip ?_
      (try simp only [AThen, ABlk, reduceIte, zF]); refine hK3 _ ?_
      refine awp_seq' fun K4 hK4 => ?_
      refine awp_block ?_
      refine awp_seq' fun K hK => ?_
      refine awp_regionD1 false tyOk tyPos tyMix ?_ rfl ?_
      · kernel_rfl
      intro E hE
      all_goals refine lexF_cut 9 (by decide) fun K9 hK9 => ?_
      all_goals simp only [push_cast, ↓brB_true, ↓brB_false, ↓reduceIte, zA, zB, zC, zD, zE, zF, zG, zH, zI, reduceCtorEq]
      all_goals repeat' (first | (apply brB_mk <;> (intro hg; (try simp only [push_cast] at hg))) | (refine ⟨_, hQ k, ?_⟩; simp only [push_cast, ↓brB_true, ↓brB_false, ↓reduceIte, zA, zB, zC, zD, zE, zF, zG, zH, zI, reduceCtorEq]) | apply And.intro | (intro hg; (try simp only [push_cast] at hg)))
      all_goals first | exact gA | (exact getE_dII (by simp only [push_cast]; omega)) | skip
      all_goals first | (refine hK9 _ _ ?_; clear hK9 K9) | (simp only [push_cast]; done)
      all_goals simp only [push_cast, ↓brB_true, ↓brB_false, ↓reduceIte, zA, zB, zC, zD, zE, zF, zG, zH, zI, reduceCtorEq]
      all_goals repeat' (first | (apply brB_mk <;> (intro hg; (try simp only [push_cast] at hg))) | (refine ⟨_, hQ k, ?_⟩; simp only [push_cast, ↓brB_true, ↓brB_false, ↓reduceIte, zA, zB, zC, zD, zE, zF, zG, zH, zI, reduceCtorEq]) | apply And.intro | (intro hg; (try simp only [push_cast] at hg)))
      all_goals first | exact gA | (refine hE _ _ ?_ ?_; kernel_rfl) | (exact getE_dII (by simp only [push_cast]; omega)) | skip
      all_goals clear hE E
      all_goals first | (refine hK _ ?_; clear hK K) | (simp only [push_cast]; done)
      refine awp_cond rfl (fun hc => ?_) (fun hc => ?_)
      skip
      · exfalso; first | (cases hc; done) | (simp only [push_cast] at hc; done) | (simp only [push_cast] at hc; omega) | omega
      refine awp_skip ?_
      (try simp only [AThen, ABlk, reduceIte, zF]); refine hK4 _ ?_
      refine awp_region tyOk tyPos [] rfl ?_
      all_goals simp only [push_cast, ↓brB_true, ↓brB_false, ↓reduceIte, zA, zB, zC, zD, zE, zF, zG, zH, zI, reduceCtorEq]
      all_goals repeat' (first | (apply brB_mk <;> (intro hg; (try simp only [push_cast] at hg))) | apply And.intro | (intro hg; (try simp only [push_cast] at hg)))
      all_goals first | exact gA | (exact getE_dII (by simp only [push_cast]; omega)) | skip
      refine hL0 _ ⟨k + 1, by omega, by omega, ?_⟩
      refine cov_of rfl ?_ ?_ ?_ <;> simp only [covS, covL, push_cast, ↓brB_true, ↓brB_false, ↓reduceIte, zA, zB, zC, zD, zE, zF, zG, zH, zI, reduceCtorEq]
    ·
      refine awp_exit ?_
      (try simp only [AThen, ABlk, reduceIte, zF]); refine hK2 _ ?_
      refine awp_seq' fun K hK => ?_
      refine awp_region tyOk tyPos [] rfl ?_
      all_goals simp only [push_cast, ↓brB_true, ↓brB_false, ↓reduceIte, zA, zB, zC, zD, zE, zF, zG, zH, zI, reduceCtorEq]
      all_goals repeat' (first | (apply brB_mk <;> (intro hg; (try simp only [push_cast] at hg))) | apply And.intro | (intro hg; (try simp only [push_cast] at hg)))
      all_goals first | exact gA | (exact getE_dII (by simp only [push_cast]; omega)) | skip
      all_goals first | (refine hK _ ?_; clear hK K) | (simp only [push_cast]; done)
      refine awp_ret ?_
      (try simp only [AThen, ABlk])
      refine ⟨Or.inl rfl, ?_⟩
      simp only [RetOk, push_cast, ↓brB_true, ↓brB_false, ↓reduceIte, zA, zB, zC, zD, zE, zF, zG, zH, zI, reduceCtorEq]
set_option maxRecDepth 20000 in
set_option maxHeartbeats 4000000 in
theorem markPS_fn (ps : List Pr) (k : Int) (h0 : 0 ≤ k) (h1 : k + sumL (ilv ps) ≤ 4611686018427387904) (h2 : ps.length ≤ 1048576) : FnG Try.prog tyT 38 [.c (.lst 99 (dII (ilv ps))), .c (.int .i64 k)] [0] [(0, 99, dII (mkR k (ilv ps)))] [.c (.int .i64 (k + sumL (ilv ps)))] := by
  have hM := fun r (m : Int) g0 g1 => markInt64S_fn r m g0 g1
  refine FnG_of (fn := Try.f38) (rs := [.tmp 4]) (own := [0]) (outs := [(0, 99, dII (mkR k (ilv ps)))]) tyOk tyPos Try.func38 (by kernel_rfl) rfl rfl (by rw [Try.ntmps38]; exact Nat.le_of_ble_eq_true rfl) rfl (by simp only [szA, List.mem_cons, List.not_mem_nil, or_false, forall_eq_or_imp, forall_eq, VT.cells, szL]; try decide) ?_
  rw [Try.ntmps38]
  simp only [push_cast, ↓brB_true, ↓brB_false, ↓reduceIte, zA, zB, zC, zD, zE, zF, zG, zH, zI, reduceCtorEq]
  refine awp_seq' fun K hK => ?_
  refine awp_region tyOk tyPos [] rfl ?_
  all_goals simp only [push_cast, ↓brB_true, ↓brB_false, ↓reduceIte, zA, zB, zC, zD, zE, zF, zG, zH, zI, reduceCtorEq]
  all_goals repeat' (first | (apply brB_mk <;> (intro hg; (try simp only [push_cast] at hg))) | apply And.intro | (intro hg; (try simp only [push_cast] at hg)))
  all_goals first | exact gA | (exact getE_dII (by omega)) | skip
  all_goals first | (refine hK _ ?_; clear hK K) | (simp only [push_cast]; done)
  refine awp_seq' fun K1 hK1 => ?_
  refine awp_seq' fun K hK => ?_
  refine awp_region tyOk tyPos [] rfl ?_
  all_goals simp only [push_cast, ↓brB_true, ↓brB_false, ↓reduceIte, zA, zB, zC, zD, zE, zF, zG, zH, zI, reduceCtorEq]
  all_goals repeat' (first | (apply brB_mk <;> (intro hg; (try simp only [push_cast] at hg))) | apply And.intro | (intro hg; (try simp only [push_cast] at hg)))
  all_goals first | exact gA | (exact getE_dII (by omega)) | skip
  all_goals first | (refine hK _ ?_; clear hK K) | (simp only [push_cast]; done)
  refine awp_block ?_
  refine awp_loopU [1,5,6,7,8,9,10,11,12,13,14,15,16,17,18,19,20,21,22,23,24,25] [0] (fun (j : Nat) => [(5, .int .i64 j), (1, .int .i64 (k + sumL ((ilv ps).take (j * 2))))]) (fun j => []) (fun j => [(0, ⟨.ex, 99, dII (mk2 k (ilv ps) (j * 2)), some 0⟩)]) (fun j => j ≤ ps.length) (fun j => ps.length - j) 0 ?_ (by omega) ?_
  ·
    rw [Nat.zero_mul, mk2_0]
    simp only [List.take_zero, sumL_nil]
    refine cov_of rfl ?_ ?_ ?_ <;> simp only [covS, covL, push_cast, ↓brB_true, ↓brB_false, ↓reduceIte, zA, zB, zC, zD, zE, zF, zG, zH, zI, reduceCtorEq]
  · rintro j hj KL0 hL0
    have hl := mk2_len (k := k) (rs := ilv ps) (j := j * 2) (by rw [len_ilv]; omega)
    have hs := sumL_take_le (ilv ps) (j * 2)
    have hs1 := sumL_take_le (ilv ps) ((j + 1) * 2)
    have hli := len_ilv ps
    simp only [push_cast, ↓brB_true, ↓brB_false, ↓reduceIte, zA, zB, zC, zD, zE, zF, zG, zH, zI, reduceCtorEq]
    refine awp_seq' fun K2 hK2 => ?_
    refine awp_seq' fun K hK => ?_
    refine awp_region tyOk tyPos [] rfl ?_
    all_goals simp only [push_cast, ↓brB_true, ↓brB_false, ↓reduceIte, zA, zB, zC, zD, zE, zF, zG, zH, zI, reduceCtorEq]
    all_goals repeat' (first | (apply brB_mk <;> (intro hg; (try simp only [push_cast] at hg))) | apply And.intro | (intro hg; (try simp only [push_cast] at hg)))
    all_goals first | exact gA | (exact getE_dII (by omega)) | skip
    all_goals first | (refine hK _ ?_; clear hK K) | (simp only [push_cast]; done)
    refine awp_cond rfl (fun hc => ?_) (fun hc => ?_) <;> (try simp only [push_cast] at hc)
    ·
      refine awp_skip ?_
      (try simp only [AThen, ABlk, reduceIte, zF]); refine hK2 _ ?_
      refine awp_seq' fun K3 hK3 => ?_
      refine awp_block ?_
      have hst := sumT (ps := ps) (j := j) (by omega)
      have hM0 := hM (gp ps j).ask (k + sumL ((ilv ps).take (j * 2))) (by omega) (by omega)
      have hM1 := hM (gp ps j).give (k + sumL ((ilv ps).take (j * 2)) + (gp ps j).ask.length) (by omega) (by omega)
      rw [show DI (gp ps j).ask = DI (gl (mk2 k (ilv ps) (j * 2)) (j * 2)) from by rw [mkPg0 (by omega)]] at hM0
      rw [show DI (gp ps j).give = DI (gl (mk2 k (ilv ps) (j * 2 + 1)) (j * 2 + 1)) from by rw [mkPg1 (by omega)]] at hM1
      refine awp_seq' fun K hK => ?_
      refine awp_regionG 18 [0] [(0, 2, dI (iot (k + sumL ((ilv ps).take (j * 2))) (gp ps j).ask.length))] tyOk tyPos [] rfl ?_
      simp only [push_cast, ↓brB_true, ↓brB_false, ↓reduceIte, zA, zB, zC, zD, zE, zF, zG, zH, zI, reduceCtorEq]
      all_goals repeat' (first | (apply brB_mk <;> (intro hg; (try simp only [push_cast] at hg))) | (refine ⟨_, hM0, ?_⟩; simp only [push_cast, ↓brB_true, ↓brB_false, ↓reduceIte, zA, zB, zC, zD, zE, zF, zG, zH, zI, reduceCtorEq]) | apply And.intro | (intro hg; (try simp only [push_cast] at hg)))
      all_goals first | exact gA | (exact getE_dII (by omega)) | skip
      all_goals first | (refine hK _ ?_; clear hK K) | (simp only [push_cast]; done)
      rw [set_dII2, mkP0 (by omega)]
      have hl1 := mk2_len (k := k) (rs := ilv ps) (j := j * 2 + 1) (by rw [len_ilv]; omega)
      refine awp_regionG 25 [0] [(0, 2, dI (iot (k + sumL ((ilv ps).take (j * 2)) + (gp ps j).ask.length) (gp ps j).give.length))] tyOk tyPos [] rfl ?_
      simp only [push_cast, ↓brB_true, ↓brB_false, ↓reduceIte, zA, zB, zC, zD, zE, zF, zG, zH, zI, reduceCtorEq]
      all_goals repeat' (first | (apply brB_mk <;> (intro hg; (try simp only [push_cast] at hg))) | (refine ⟨_, hM1, ?_⟩; simp only [push_cast, ↓brB_true, ↓brB_false, ↓reduceIte, zA, zB, zC, zD, zE, zF, zG, zH, zI, reduceCtorEq]) | apply And.intro | (intro hg; (try simp only [push_cast] at hg)))
      all_goals first | exact gA | (exact getE_dII (by omega)) | skip
      (try simp only [AThen, ABlk, reduceIte, zF]); refine hK3 _ ?_
      refine awp_region tyOk tyPos [] rfl ?_
      all_goals simp only [push_cast, ↓brB_true, ↓brB_false, ↓reduceIte, zA, zB, zC, zD, zE, zF, zG, zH, zI, reduceCtorEq]
      all_goals repeat' (first | (apply brB_mk <;> (intro hg; (try simp only [push_cast] at hg))) | apply And.intro | (intro hg; (try simp only [push_cast] at hg)))
      all_goals first | exact gA | (exact getE_dII (by omega)) | skip
      refine hL0 _ ⟨j + 1, by omega, by omega, ?_⟩
      rw [set_dII2, mkP1 (by omega)]
      refine cov_of rfl ?_ ?_ ?_ <;> simp only [covS, covL, push_cast, ↓brB_true, ↓brB_false, ↓reduceIte, zA, zB, zC, zD, zE, zF, zG, zH, zI, reduceCtorEq]
      all_goals (try (refine congrArg (AV.int .i64) ?_; omega))
    ·
      refine awp_exit ?_
      have hjj : j = ps.length := by omega
      subst hjj
      rw [← len_ilv ps, mk2_all, List.take_length]
      (try simp only [AThen, ABlk, reduceIte, zF]); refine hK1 _ ?_
      refine awp_seq' fun K hK => ?_
      refine awp_region tyOk tyPos [] rfl ?_
      all_goals simp only [push_cast, ↓brB_true, ↓brB_false, ↓reduceIte, zA, zB, zC, zD, zE, zF, zG, zH, zI, reduceCtorEq]
      all_goals repeat' (first | (apply brB_mk <;> (intro hg; (try simp only [push_cast] at hg))) | apply And.intro | (intro hg; (try simp only [push_cast] at hg)))
      all_goals first | exact gA | (exact getE_dII (by omega)) | skip
      all_goals first | (refine hK _ ?_; clear hK K) | (simp only [push_cast]; done)
      refine awp_ret ?_
      (try simp only [AThen, ABlk])
      refine ⟨Or.inl rfl, ?_⟩
      simp only [RetOkG, outsOk, resVars, resVar, push_cast, ↓brB_true, ↓brB_false, ↓reduceIte, zA, zB, zC, zD, zE, zF, zG, zH, zI, reduceCtorEq]
end Go.Proofs.Ytklconkoamoabaa

namespace Go.Proofs.Ytklconkoamoabaa
open Go.ChangeShapes Go.WideShapes Go.ChangeAt Go.RowKit Go.Deep Go.Joins
set_option linter.unusedVariables false
set_option linter.unusedSimpArgs false

theorem flat_PS : ∀ (dss : List (List D)), (∀ ds ∈ dss, ∃ p : Pr, ds = dPr p ∧ p.Ln 9223372036854775807) → ∃ ps : List Pr, dss.flatten = dII (ilv ps) ∧ ps.length = dss.length ∧ ∀ p ∈ ps, p.Ln 9223372036854775807
  | [], _ => ⟨[], rfl, rfl, fun p hp => by simp at hp⟩
  | ds :: dss, h => by
    obtain ⟨p, rfl, hp⟩ := h ds (by simp)
    obtain ⟨ps, e, hl, hb⟩ := flat_PS dss (fun d hd => h d (by simp [hd]))
    refine ⟨p :: ps, by rw [List.flatten_cons, e]; rfl, by simp [hl], fun x hx => ?_⟩
    rcases List.mem_cons.1 hx with rfl | hx
    · exact hp
    · exact hb x hx
theorem cnt_PS {ps : List Pr} (h : PLn 1048576 ps) : sumL (ilv ps) ≤ 2199023255552 ∧ ps.length ≤ 1048576 := by
  have h1 : sumL (ilv ps) ≤ (ilv ps).length * 1048576 := sumL_le fun r hr => by
    unfold ilv at hr
    rw [List.mem_flatMap] at hr
    obtain ⟨p, hp, hr⟩ := hr
    have := h.2 p hp
    simp only [List.mem_cons, List.not_mem_nil, or_false] at hr
    rcases hr with rfl | rfl
    · exact this.ask
    · exact this.give
  rw [len_ilv] at h1
  have := h.1
  omega
section
variable {H : Type} {enc : TypeId × Value → H} {W : World} {lo : Nat}
set_option maxRecDepth 100000 in
theorem open_PS {fuel : Nat} {cs : List Value} {x : DataW H × List MemPlace} (h : Tro enc W fuel 58 cs x) : ∃ v ps, cs = [v] ∧ RpN lo W (.lst 95 (dII (ilv ps))) v ∧ PLn 9223372036854775807 ps := by
  obtain ⟨v, dss, rfl, h1, h2, h3⟩ := open_S (lo := lo) (k := 2) Try.underlying58 (by omega) sz_95 (by kernel_rfl) (Q := fun ds => ∃ p : Pr, ds = dPr p ∧ p.Ln 9223372036854775807) (fun n cs y hy => by
    obtain ⟨p, h1, -, h2⟩ := open_Pr (lo := lo) hy
    exact ⟨dPr p, h1, p, rfl, h2⟩) h
  obtain ⟨ps, e, hl, hb⟩ := flat_PS dss (fun ds hds => (h3 ds hds).1)
  rw [e] at h1
  exact ⟨v, ps, rfl, h1, by omega, hb⟩
set_option maxRecDepth 100000 in
theorem arg_PS {base : Nat} {v : Value} {d : DataW H} {p : List MemPlace} (hv : Value.okWide Try.prog W .any base 58 v) (h : DataW.Trod enc Try.prog W 0 (fun _ => true) true 58 v d p) : ∃ ps, ArgR (sz tyT) lo W (fun _ => none) (.c (.lst 95 (dII (ilv ps)))) v ∧ True ∧ PLn 9223372036854775807 ps := by
  obtain ⟨A, n, c, rfl⟩ := okWide_slice Try.underlying58 hv
  obtain ⟨fuel, hf⟩ := h
  obtain ⟨v', n', e, h1, h2⟩ := open_PS (lo := lo) hf
  simp only [Value.cells, List.cons.injEq, and_true] at e
  subst e
  exact ⟨n', h1, trivial, h2⟩
end
end Go.Proofs.Ytklconkoamoabaa

namespace Go.Proofs.Ytklconkoamoabaa
open Nat renaming reduceMod → zA, reduceMul → zB, reduceDiv → zC, reduceAdd → zD, reduceSub → zE, reduceEqDiff → zF, reduceBEq → zG, reduceLT → zH, reduceLeDiff → zI
open Go.RowKit
set_option linter.unusedVariables false
set_option linter.unusedSimpArgs false

structure Pa where
  a : Ar
  prio : List Int
  deriving DecidableEq
def dPa (x : Pa) : List D := [DI x.a.owner, DII x.a.next, DI x.prio]
def Pa.tot (x : Pa) : Nat := x.a.owner.length + totII x.a.next + x.prio.length
structure Pa.Ln (B : Nat) (x : Pa) : Prop where
  a : x.a.Ln B
  prio : LnI B x.prio
theorem Pa.ln_of {B : Nat} {x : Pa} (h : x.tot ≤ B) : x.Ln B := by
  unfold Pa.tot at h
  exact ⟨Ar.ln_of (by unfold Ar.tot; omega), LnI_of (by omega)⟩
set_option maxHeartbeats 1000000 in
theorem eqPa_fn (x : Pa) (ha : x.Ln 1048576) : Fn Try.prog tyT 28 [.agg (dPa x), .agg (dPa x)] [.c (.bool true)] := by
  unfold dPa
  refine Fn_of (fn := Try.f28) (ts := [4]) Try.func28 (by kernel_rfl) rfl rfl (by rw [Try.ntmps28]; exact Nat.le_of_ble_eq_true rfl) rfl (by simp only [szA, List.mem_cons, List.not_mem_nil, or_false, forall_eq_or_imp, forall_eq, VT.cells, szL]; try decide) ?_
  rw [Try.ntmps28]
  simp only [push_cast, ↓brB_true, ↓brB_false, ↓reduceIte, zA, zB, zC, zD, zE, zF, zG, zH, zI, reduceCtorEq]
  refine awp_seq' fun K hK => ?_
  refine awp_region tyOk tyPos [] rfl ?_
  simp only [push_cast, ↓brB_true, ↓brB_false, ↓reduceIte, zA, zB, zC, zD, zE, zF, zG, zH, zI, reduceCtorEq]
  repeat' apply And.intro
  all_goals try exact gB
  all_goals first | (refine hK _ ?_; clear hK K) | (simp only [push_cast]; done)
  refine awp_seq' fun K0 hK0 => ?_
  have hA := eqAr_fn x.a ha.a
  unfold dAr at hA
  refine awp_seq' fun K hK => ?_
  refine awp_region tyOk tyPos [] rfl ?_
  simp only [push_cast, ↓brB_true, ↓brB_false, ↓reduceIte, zA, zB, zC, zD, zE, zF, zG, zH, zI, reduceCtorEq]
  refine ⟨_, hA, ?_⟩
  simp only [push_cast, ↓brB_true, ↓brB_false, ↓reduceIte, zA, zB, zC, zD, zE, zF, zG, zH, zI, reduceCtorEq]
  repeat' apply And.intro
  all_goals try exact gB
  refine hK _ ?_
  clear hK K hA
  refine awp_cond rfl (fun hc => by cases hc) (fun _ => ?_)
  refine awp_skip ?_
  (try simp only [AThen, ABlk, reduceIte, zF]); refine hK0 _ ?_
  refine awp_seq' fun K1 hK1 => ?_
  have hA := eqI2_fn x.prio ha.prio
  refine awp_seq' fun K hK => ?_
  refine awp_region tyOk tyPos [] rfl ?_
  simp only [push_cast, ↓brB_true, ↓brB_false, ↓reduceIte, zA, zB, zC, zD, zE, zF, zG, zH, zI, reduceCtorEq]
  refine ⟨_, hA, ?_⟩
  simp only [push_cast, ↓brB_true, ↓brB_false, ↓reduceIte, zA, zB, zC, zD, zE, zF, zG, zH, zI, reduceCtorEq]
  repeat' apply And.intro
  all_goals try exact gB
  refine hK _ ?_
  clear hK K hA
  refine awp_cond rfl (fun hc => by cases hc) (fun _ => ?_)
  refine awp_skip ?_
  (try simp only [AThen, ABlk, reduceIte, zF]); refine hK1 _ ?_
  refine awp_seq' fun K hK => ?_
  refine awp_region tyOk tyPos [] rfl ?_
  simp only [push_cast, ↓brB_true, ↓brB_false, ↓reduceIte, zA, zB, zC, zD, zE, zF, zG, zH, zI, reduceCtorEq]
  repeat' apply And.intro
  all_goals try exact gB
  all_goals first | (refine hK _ ?_; clear hK K) | (simp only [push_cast]; done)
  refine awp_ret ?_
  (try simp only [AThen, ABlk])
  refine ⟨Or.inl rfl, ?_⟩
  simp only [RetOk, push_cast, ↓brB_true, ↓brB_false, ↓reduceIte, zA, zB, zC, zD, zE, zF, zG, zH, zI, reduceCtorEq]
def Pa.cnt (x : Pa) : Nat := x.a.owner.length + sumL x.a.next + x.prio.length
theorem Pa.ln_mono {B C : Nat} (hB : B ≤ C) {x : Pa} (h : x.Ln B) : x.Ln C := ⟨Ar.ln_mono hB h.a, LnI.mono hB h.prio⟩
theorem Pa.cnt_le {x : Pa} (h : x.Ln 1048576) : x.cnt ≤ 3298534883328 := by
  have h0 := Ar.cnt_le h.a
  have h1 := cnt_LI h.prio
  unfold Pa.cnt
  try unfold Ar.cnt at *
  omega
def mkPa (k : Int) (x : Pa) : Pa :=
  ⟨⟨iot (k) x.a.owner.length, mkR (k + (x.a.owner.length : Nat)) x.a.next⟩, iot (k + (x.a.owner.length : Nat) + (sumL x.a.next : Nat)) x.prio.length⟩
set_option maxHeartbeats 1000000 in
theorem markPa_fn (x : Pa) (k : Int) (h0 : 0 ≤ k) (h1 : k + x.cnt ≤ 4611686018427387904) (ha : x.Ln 4611686018427387904) : FnG Try.prog tyT 31 [.agg (dPa x), .c (.int .i64 k)] [0, 1, 2] [(0, 2, dI (iot (k) x.a.owner.length)), (1, 22, dII (mkR (k + (x.a.owner.length : Nat)) x.a.next)), (2, 2, dI (iot (k + (x.a.owner.length : Nat) + (sumL x.a.next : Nat)) x.prio.length))] [.c (.int .i64 (k + x.cnt))] := by
  have ht : x.cnt = x.a.cnt + x.prio.length := by unfold Pa.cnt; try unfold Ar.cnt; omega
  have hta : x.a.cnt = x.a.owner.length + sumL x.a.next := by unfold Ar.cnt; omega
  unfold dPa
  refine FnG_of (fn := Try.f31) (rs := [.tmp 4]) (own := [0, 1, 2]) (outs := [(0, 2, dI (iot (k) x.a.owner.length)), (1, 22, dII (mkR (k + (x.a.owner.length : Nat)) x.a.next)), (2, 2, dI (iot (k + (x.a.owner.length : Nat) + (sumL x.a.next : Nat)) x.prio.length))]) tyOk tyPos Try.func31 (by kernel_rfl) rfl rfl (by rw [Try.ntmps31]; exact Nat.le_of_ble_eq_true rfl) rfl (by simp only [szA, List.mem_cons, List.not_mem_nil, or_false, forall_eq_or_imp, forall_eq, VT.cells, szL]; try decide) ?_
  rw [Try.ntmps31]
  simp only [push_cast, ↓brB_true, ↓brB_false, ↓reduceIte, zA, zB, zC, zD, zE, zF, zG, zH, zI, reduceCtorEq]
  refine awp_seq' fun K hK => ?_
  refine awp_region tyOk tyPos [] rfl ?_
  simp only [push_cast, ↓brB_true, ↓brB_false, ↓reduceIte, zA, zB, zC, zD, zE, zF, zG, zH, zI, reduceCtorEq]
  repeat' apply And.intro
  all_goals try exact gB
  all_goals first | (refine hK _ ?_; clear hK K) | (simp only [push_cast]; done)
  have hA := markAr_fn x.a (k) (by omega) (by omega) ha.a
  unfold dAr Ar.cnt at hA
  refine awp_seq' fun K hK => ?_
  refine awp_regionG 8 [0, 1] [(0, 2, dI (iot (k) x.a.owner.length)), (1, 22, dII (mkR (k + (x.a.owner.length : Nat)) x.a.next))] tyOk tyPos [] rfl ?_
  simp only [push_cast, ↓brB_true, ↓brB_false, ↓reduceIte, zA, zB, zC, zD, zE, zF, zG, zH, zI, reduceCtorEq]
  refine ⟨_, hA, ?_⟩
  simp only [push_cast, ↓brB_true, ↓brB_false, ↓reduceIte, zA, zB, zC, zD, zE, zF, zG, zH, zI, reduceCtorEq]
  refine hK _ ?_
  clear hK K hA
  rw [show (k : Int) + (((x.a.owner.length : Nat) : Int) + ((sumL x.a.next : Nat) : Int)) = k + (x.a.owner.length : Nat) + (sumL x.a.next : Nat) from by omega]
  have hA := markInt64S_fn x.prio (k + (x.a.owner.length : Nat) + (sumL x.a.next : Nat)) (by omega) (by omega)
  refine awp_seq' fun K hK => ?_
  refine awp_regionG 12 [0] [(0, 2, dI (iot (k + (x.a.owner.length : Nat) + (sumL x.a.next : Nat)) x.prio.length))] tyOk tyPos [] rfl ?_
  simp only [push_cast, ↓brB_true, ↓brB_false, ↓reduceIte, zA, zB, zC, zD, zE, zF, zG, zH, zI, reduceCtorEq]
  refine ⟨_, hA, ?_⟩
  simp only [push_cast, ↓brB_true, ↓brB_false, ↓reduceIte, zA, zB, zC, zD, zE, zF, zG, zH, zI, reduceCtorEq]
  refine hK _ ?_
  clear hK K hA
  refine awp_seq' fun K hK => ?_
  refine awp_region tyOk tyPos [] rfl ?_
  simp only [push_cast, ↓brB_true, ↓brB_false, ↓reduceIte, zA, zB, zC, zD, zE, zF, zG, zH, zI, reduceCtorEq]
  repeat' apply And.intro
  all_goals try exact gB
  all_goals first | (refine hK _ ?_; clear hK K) | (simp only [push_cast]; done)
  refine awp_ret ?_
  (try simp only [AThen, ABlk])
  refine ⟨Or.inl rfl, ?_⟩
  simp only [RetOkG, outsOk, resVars, resVar, push_cast, ↓brB_true, ↓brB_false, ↓reduceIte, zA, zB, zC, zD, zE, zF, zG, zH, zI, reduceCtorEq]
  try (unfold Pa.cnt; omega)
set_option maxHeartbeats 1000000 in
theorem heldPa_fn (x : Pa) (k : Int) (h0 : 0 ≤ k) (h1 : k + x.cnt ≤ 4611686018427387904) (ha : x.Ln 4611686018427387904) : Fn Try.prog tyT 32 [.agg (dPa (mkPa k x)), .c (.int .i64 k)] [.c (.int .i64 (k + x.cnt))] := by
  have ht : x.cnt = x.a.cnt + x.prio.length := by unfold Pa.cnt; try unfold Ar.cnt; omega
  have hta : x.a.cnt = x.a.owner.length + sumL x.a.next := by unfold Ar.cnt; omega
  unfold dPa mkPa
  refine Fn_of (fn := Try.f32) (ts := [4]) Try.func32 (by kernel_rfl) rfl rfl (by rw [Try.ntmps32]; exact Nat.le_of_ble_eq_true rfl) rfl (by simp only [szA, List.mem_cons, List.not_mem_nil, or_false, forall_eq_or_imp, forall_eq, VT.cells, szL]; try decide) ?_
  rw [Try.ntmps32]
  simp only [push_cast, ↓brB_true, ↓brB_false, ↓reduceIte, zA, zB, zC, zD, zE, zF, zG, zH, zI, reduceCtorEq]
  refine awp_seq' fun K hK => ?_
  refine awp_region tyOk tyPos [] rfl ?_
  simp only [push_cast, ↓brB_true, ↓brB_false, ↓reduceIte, zA, zB, zC, zD, zE, zF, zG, zH, zI, reduceCtorEq]
  repeat' apply And.intro
  all_goals try exact gB
  all_goals first | (refine hK _ ?_; clear hK K) | (simp only [push_cast]; done)
  have hA := heldAr_fn x.a (k) (by omega) (by omega) ha.a
  unfold dAr mkAr Ar.cnt at hA
  refine awp_seq' fun K hK => ?_
  refine awp_region tyOk tyPos [] rfl ?_
  simp only [push_cast, ↓brB_true, ↓brB_false, ↓reduceIte, zA, zB, zC, zD, zE, zF, zG, zH, zI, reduceCtorEq]
  refine ⟨_, hA, ?_⟩
  simp only [push_cast, ↓brB_true, ↓brB_false, ↓reduceIte, zA, zB, zC, zD, zE, zF, zG, zH, zI, reduceCtorEq]
  repeat' apply And.intro
  all_goals try exact gB
  refine hK _ ?_
  clear hK K hA
  rw [show (k : Int) + (((x.a.owner.length : Nat) : Int) + ((sumL x.a.next : Nat) : Int)) = k + (x.a.owner.length : Nat) + (sumL x.a.next : Nat) from by omega]
  refine awp_seq' fun K0 hK0 => ?_
  refine awp_seq' fun K hK => ?_
  refine awp_region tyOk tyPos [] rfl ?_
  simp only [push_cast, ↓brB_true, ↓brB_false, ↓reduceIte, zA, zB, zC, zD, zE, zF, zG, zH, zI, reduceCtorEq]
  repeat' apply And.intro
  all_goals try exact gB
  all_goals first | (refine hK _ ?_; clear hK K) | (simp only [push_cast]; done)
  refine awp_cond rfl (fun hc => by simp only [decide_eq_true_eq] at hc; omega) (fun _ => ?_)
  refine awp_skip ?_
  (try simp only [AThen, ABlk, reduceIte, zF]); refine hK0 _ ?_
  have hA := heldInt64S_fn x.prio.length (k + (x.a.owner.length : Nat) + (sumL x.a.next : Nat)) (by omega) (by omega)
  refine awp_seq' fun K hK => ?_
  refine awp_region tyOk tyPos [] rfl ?_
  simp only [push_cast, ↓brB_true, ↓brB_false, ↓reduceIte, zA, zB, zC, zD, zE, zF, zG, zH, zI, reduceCtorEq]
  refine ⟨_, hA, ?_⟩
  simp only [push_cast, ↓brB_true, ↓brB_false, ↓reduceIte, zA, zB, zC, zD, zE, zF, zG, zH, zI, reduceCtorEq]
  repeat' apply And.intro
  all_goals try exact gB
  refine hK _ ?_
  clear hK K hA
  refine awp_seq' fun K1 hK1 => ?_
  refine awp_seq' fun K hK => ?_
  refine awp_region tyOk tyPos [] rfl ?_
  simp only [push_cast, ↓brB_true, ↓brB_false, ↓reduceIte, zA, zB, zC, zD, zE, zF, zG, zH, zI, reduceCtorEq]
  repeat' apply And.intro
  all_goals try exact gB
  all_goals first | (refine hK _ ?_; clear hK K) | (simp only [push_cast]; done)
  refine awp_cond rfl (fun hc => by simp only [decide_eq_true_eq] at hc; omega) (fun _ => ?_)
  refine awp_skip ?_
  (try simp only [AThen, ABlk, reduceIte, zF]); refine hK1 _ ?_
  refine awp_seq' fun K hK => ?_
  refine awp_region tyOk tyPos [] rfl ?_
  simp only [push_cast, ↓brB_true, ↓brB_false, ↓reduceIte, zA, zB, zC, zD, zE, zF, zG, zH, zI, reduceCtorEq]
  repeat' apply And.intro
  all_goals try exact gB
  all_goals first | (refine hK _ ?_; clear hK K) | (simp only [push_cast]; done)
  refine awp_ret ?_
  (try simp only [AThen, ABlk])
  refine ⟨Or.inl rfl, ?_⟩
  simp only [RetOk, push_cast, ↓brB_true, ↓brB_false, ↓reduceIte, zA, zB, zC, zD, zE, zF, zG, zH, zI, reduceCtorEq]
  try (unfold Pa.cnt; omega)
end Go.Proofs.Ytklconkoamoabaa

namespace Go.Proofs.Ytklconkoamoabaa
open Nat renaming reduceMod → zA, reduceMul → zB, reduceDiv → zC, reduceAdd → zD, reduceSub → zE, reduceEqDiff → zF, reduceBEq → zG, reduceLT → zH, reduceLeDiff → zI
open Go.RowKit
set_option linter.unusedVariables false
set_option linter.unusedSimpArgs false

structure Plc where
  at_ : Int
  record : List Int
  deriving DecidableEq
def dPlc (x : Plc) : List D := [.int .i64 x.at_, DI x.record]
def Plc.tot (x : Plc) : Nat := x.record.length
structure Plc.Ln (B : Nat) (x : Plc) : Prop where
  record : LnI B x.record
theorem Plc.ln_of {B : Nat} {x : Plc} (h : x.tot ≤ B) : x.Ln B := by
  unfold Plc.tot at h
  exact ⟨LnI_of (by omega)⟩
set_option maxHeartbeats 1000000 in
theorem eqPlc_fn (x : Plc) (ha : x.Ln 1048576) : Fn Try.prog tyT 52 [.agg (dPlc x), .agg (dPlc x)] [.c (.bool true)] := by
  unfold dPlc
  refine Fn_of (fn := Try.f52) (ts := [4]) Try.func52 (by kernel_rfl) rfl rfl (by rw [Try.ntmps52]; exact Nat.le_of_ble_eq_true rfl) rfl (by simp only [szA, List.mem_cons, List.not_mem_nil, or_false, forall_eq_or_imp, forall_eq, VT.cells, szL]; try decide) ?_
  rw [Try.ntmps52]
  simp only [push_cast, ↓brB_true, ↓brB_false, ↓reduceIte, zA, zB, zC, zD, zE, zF, zG, zH, zI, reduceCtorEq]
  refine awp_seq' fun K hK => ?_
  refine awp_region tyOk tyPos [] rfl ?_
  simp only [push_cast, ↓brB_true, ↓brB_false, ↓reduceIte, zA, zB, zC, zD, zE, zF, zG, zH, zI, reduceCtorEq]
  repeat' apply And.intro
  all_goals try exact gB
  all_goals first | (refine hK _ ?_; clear hK K) | (simp only [push_cast]; done)
  refine awp_seq' fun K0 hK0 => ?_
  refine awp_seq' fun K hK => ?_
  refine awp_region tyOk tyPos [] rfl ?_
  simp only [push_cast, ↓brB_true, ↓brB_false, ↓reduceIte, zA, zB, zC, zD, zE, zF, zG, zH, zI, reduceCtorEq]
  repeat' apply And.intro
  all_goals try exact gB
  all_goals first | (refine hK _ ?_; clear hK K) | (simp only [push_cast]; done)
  refine awp_cond rfl (fun hc => by simp at hc) (fun _ => ?_)
  refine awp_skip ?_
  (try simp only [AThen, ABlk, reduceIte, zF]); refine hK0 _ ?_
  refine awp_seq' fun K1 hK1 => ?_
  have hA := eqI2_fn x.record ha.record
  refine awp_seq' fun K hK => ?_
  refine awp_region tyOk tyPos [] rfl ?_
  simp only [push_cast, ↓brB_true, ↓brB_false, ↓reduceIte, zA, zB, zC, zD, zE, zF, zG, zH, zI, reduceCtorEq]
  refine ⟨_, hA, ?_⟩
  simp only [push_cast, ↓brB_true, ↓brB_false, ↓reduceIte, zA, zB, zC, zD, zE, zF, zG, zH, zI, reduceCtorEq]
  repeat' apply And.intro
  all_goals try exact gB
  refine hK _ ?_
  clear hK K hA
  refine awp_cond rfl (fun hc => by cases hc) (fun _ => ?_)
  refine awp_skip ?_
  (try simp only [AThen, ABlk, reduceIte, zF]); refine hK1 _ ?_
  refine awp_seq' fun K hK => ?_
  refine awp_region tyOk tyPos [] rfl ?_
  simp only [push_cast, ↓brB_true, ↓brB_false, ↓reduceIte, zA, zB, zC, zD, zE, zF, zG, zH, zI, reduceCtorEq]
  repeat' apply And.intro
  all_goals try exact gB
  all_goals first | (refine hK _ ?_; clear hK K) | (simp only [push_cast]; done)
  refine awp_ret ?_
  (try simp only [AThen, ABlk])
  refine ⟨Or.inl rfl, ?_⟩
  simp only [RetOk, push_cast, ↓brB_true, ↓brB_false, ↓reduceIte, zA, zB, zC, zD, zE, zF, zG, zH, zI, reduceCtorEq]
end Go.Proofs.Ytklconkoamoabaa
