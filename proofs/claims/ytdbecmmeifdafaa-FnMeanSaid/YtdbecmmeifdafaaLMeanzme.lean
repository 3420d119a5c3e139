/- The statement on FnMean: whatever the dice, the plan by the values keeps the mean at the value or above, the plan of the dual arena at the value or below. -/
import Derived.Test.YtdbecmmeifdafaaB6zme
import Derived.Test.YtdbecmmeifdafaaB14zme
namespace Go.Proofs.Ytdbecmmeifdafaa
open Nat renaming reduceMod → zA, reduceMul → zB, reduceDiv → zC, reduceAdd → zD, reduceSub → zE, reduceEqDiff → zF, reduceBEq → zG, reduceLT → zH, reduceLeDiff → zI
open Go.RowKit
set_option linter.unusedVariables false
set_option linter.unusedSimpArgs false

attribute [-push_cast] rm
theorem wt_ln {w : Wt} (h : weightedB w = true) : w.Ln 1048576 := by
  obtain ⟨h1, h2, h3, h4, h5, h6⟩ := weighted_facts h
  refine ⟨⟨by unfold LnI; omega, by omega, fun r hr => ?_⟩, by omega, fun r hr => ?_⟩
  · obtain ⟨v, hv, rfl⟩ := mem_gl hr
    have := (h6 v (by omega)).2.2.1
    omega
  · obtain ⟨v, hv, rfl⟩ := mem_gl hr
    have h7 := h6 v (by omega)
    have := h7.2.2.1
    have := h7.1
    omega
namespace lawFnMean
open Go.ChangeShapes Go.WideShapes Go.ChangeAt Go.Joins
theorem own_law : ownKnob Try.prog.godebug = none := by kernel_rfl
theorem lay_law : laidOutB Try.prog = true := by kernel_rfl
set_option maxRecDepth 20000 in
set_option maxHeartbeats 8000000 in
theorem law (code : List Int) (hl : code.length ≤ 9223372036854775807) (hbt : ∀ k, k < code.length → 0 ≤ gi code k ∧ gi code k ≤ 255) : Fn Try.prog tyT 6 [.c (.lst 5 (dU code))] [.c (.bool true)] := by
  have hBig := big_fn code hl
  refine Fn_of (fn := Try.f6) (ts := [2]) Try.func6 (by kernel_rfl) rfl rfl (by rw [Try.ntmps6]; exact Nat.le_of_ble_eq_true rfl) rfl (by simp only [szA, List.mem_cons, List.not_mem_nil, or_false, forall_eq_or_imp, forall_eq, VT.cells, szL]; try decide) ?_
  rw [Try.ntmps6]
  simp only [push_cast, ↓brB_true, ↓brB_false, ↓reduceIte, zA, zB, zC, zD, zE, zF, zG, zH, zI, reduceCtorEq]
  refine awp_seq' fun K hK => ?_
  refine awp_region tyOk tyPos [] rfl ?_
  simp only [push_cast, ↓brB_true, ↓brB_false, ↓reduceIte, zA, zB, zC, zD, zE, zF, zG, zH, zI, reduceCtorEq]
  repeat' apply And.intro
  all_goals try exact gB
  all_goals first | (refine hK _ ?_; clear hK K) | (simp only [push_cast]; done)
  refine awp_seq' fun K1 hK1 => ?_
  refine awp_seq' fun K hK => ?_
  refine awp_region tyOk tyPos [] rfl ?_
  all_goals refine aops_cut 2 fun K9 hK9 => ?_
  all_goals simp only [push_cast, ↓brB_true, ↓brB_false, ↓reduceIte, zA, zB, zC, zD, zE, zF, zG, zH, zI, reduceCtorEq]
  all_goals repeat' (first | (apply brB_mk <;> (intro hg; (try simp only [push_cast] at hg))) | (refine ⟨_, hBig, ?_⟩; simp only [push_cast, ↓brB_true, ↓brB_false, ↓reduceIte, zA, zB, zC, zD, zE, zF, zG, zH, zI, reduceCtorEq]) | apply And.intro | (intro hg; (try simp only [push_cast] at hg)))
  all_goals try exact gA
  all_goals first | (refine hK9 _ ?_; clear hK9 K9) | (simp only [push_cast]; done)
  all_goals simp only [push_cast, ↓brB_true, ↓brB_false, ↓reduceIte, zA, zB, zC, zD, zE, zF, zG, zH, zI, reduceCtorEq]
  all_goals repeat' (first | (apply brB_mk <;> (intro hg; (try simp only [push_cast] at hg))) | (refine ⟨_, hBig, ?_⟩; simp only [push_cast, ↓brB_true, ↓brB_false, ↓reduceIte, zA, zB, zC, zD, zE, zF, zG, zH, zI, reduceCtorEq]) | apply And.intro | (intro hg; (try simp only [push_cast] at hg)))
  all_goals try exact gA
  all_goals first | (refine hK _ ?_; clear hK K) | (simp only [push_cast]; done)
  refine awp_cond rfl (fun hc => ?_) (fun hc => ?_) <;> (try simp only [push_cast] at hc)
  ·
    refine awp_seq' fun K hK => ?_
    refine awp_region tyOk tyPos [] rfl ?_
    simp only [push_cast, ↓brB_true, ↓brB_false, ↓reduceIte, zA, zB, zC, zD, zE, zF, zG, zH, zI, reduceCtorEq]
    repeat' apply And.intro
    all_goals try exact gB
    all_goals first | (refine hK _ ?_; clear hK K) | (simp only [push_cast]; done)
    refine awp_ret ?_
    (try simp only [AThen, ABlk])
    refine ⟨Or.inl rfl, ?_⟩
    simp only [RetOk, push_cast, ↓brB_true, ↓brB_false, ↓reduceIte, zA, zB, zC, zD, zE, zF, zG, zH, zI, reduceCtorEq]
  ·
    refine awp_skip ?_
    (try simp only [AThen, ABlk, reduceIte, zF]); refine hK1 _ ?_
    have hby : BytesOk code := ⟨by omega, hbt⟩
    have hR := roll0_fn code hby 30 (by omega)
    have hW := w6Weighted_fn code hby 30 0 5 3 (by omega) (by omega)
    have hwb := wtW_ok hby 30 0 (most := 5) (size := 3) (by omega) (by omega)
    have hno : (wtW code 30 0 5 3).a.owner.length ≤ 5 := by have h1 := (arA_len (code := code) (seed := 30) (j := 0) (most := 5)).1; have h2 := arN_le hby 30 0 (most := 5) (by omega); show (arA code 30 0 5).owner.length ≤ 5; omega
    generalize wtW code 30 0 5 3 = w at hW hwb hno
    generalize wtJ code 30 0 5 = j1 at hW
    have hwf := weighted_facts hwb
    have hLn := wt_ln hwb
    have hmb : meanB w = true := by unfold meanB; rw [hwb, decide_eq_true (by omega)]; rfl
    have hxb := dual_weighted hwb
    have hxf := weighted_facts hxb
    have hxm := dual_mean hmb
    have hLx := wt_ln hxb
    have hxl := dual_len hwb
    obtain ⟨C, hC⟩ := mp_ex w
    obtain ⟨C2, hC2⟩ := mp_ex (dualW w)
    have hM := MeanOfI_fn w hLn
    have hMP := MeanPlanI_fn w hLn C hC
    have hD := DualS_fn w hLn
    have hM2 := MeanOfI_fn (dualW w) hLx
    have hMP2 := MeanPlanI_fn (dualW w) hLx C2 hC2
    have hpo := mp_right hmb hC
    have hpb := (planOk_facts hpo).2.2
    have hpr := mpRes_len (w := w) (C := C)
    unfold LnI at hpr
    have hPO := PlanOkS_fn w.a hLn.a 0 (mpRes w C) hpr
    rw [hpo] at hPO
    have hpo2 := mp_right hxm hC2
    have hpb2 := (planOk_facts hpo2).2.2
    have hpr2 := mpRes_len (w := dualW w) (C := C2)
    unfold LnI at hpr2
    have hPO2 := PlanOkS_fn (dualW w).a hLx.a 0 (mpRes (dualW w) C2) hpr2
    rw [hpo2] at hPO2
    have hgm : ∀ v, v < w.a.owner.length → gf (meansR w) v = valF w v := fun v hv => by rw [meansR_yes hmb]; exact gf_means hv
    have hoth : ∀ v, v < w.a.owner.length → (gf (meansR (dualW w)) v).num = -(gf (meansR w) v).num ∧ (gf (meansR (dualW w)) v).den = (gf (meansR w) v).den := fun v hv => by rw [hgm v hv, meansR_yes hxm, gf_means (by rw [hxl]; exact hv), dual_val hmb hv]; exact ⟨rfl, rfl⟩
    have hcl1 : (meansR w).length = w.a.owner.length := by rw [meansR_yes hmb, meansL_len]
    have hcl2 : (meansR (dualW w)).length = w.a.owner.length := by rw [meansR_yes hxm, meansL_len, hxl]
    have hvf : ∀ v, v < w.a.owner.length → fracB (gf (meansR w) v) = true ∧ ((-8000 ≤ (gf (meansR w) v).num ∧ (gf (meansR w) v).num ≤ 8000) ∧ 1 ≤ (gf (meansR w) v).den ∧ (gf (meansR w) v).den ≤ 8) := fun v hv => by rw [hgm v hv]; exact valF_ok (wmn_of hmb) hv
    have hAt : ∀ v : Nat, v < w.a.owner.length → Fn Try.prog tyT 31 [.agg (dWt w), .c (.int .i64 v), .agg (dFr (gf (meansR w) v))] [.c (.bool true)] := fun v hv => by have h9 := AtLeastI_fn w hLn (v : Int) (gf (meansR w) v); rw [atB_yes hmb (by omega) (hvf v hv).1, Int.toNat_natCast, hgm v hv, lessF_self] at h9; rw [hgm v hv]; exact h9
    have hAg1 := fun (j v : Nat) (hv : v < w.a.owner.length) => w6Against_fn code hby 30 j w.a hLn.a hwf.1 (mpRes w C) hpb v (by omega)
    have hAg2 := fun (j v : Nat) (hv : v < w.a.owner.length) => w6Against_fn code hby 30 j (dualW w).a hLx.a hxf.1 (mpRes (dualW w) C2) hpb2 v (by omega)
    have hm1 : ∀ j v : Nat, v < w.a.owner.length → fracB (meanRes w (agL code 30 j w.a (mpRes w C) v)) = true ∧ lessF (meanRes w (agL code 30 j w.a (mpRes w C) v)) (gf (meansR w) v) = false := fun j v hv => by rw [hgm v hv]; exact mean_play hmb hC (pL_full hby 30 hwf.1 1 j) hv (agL_is hby 30 j hwf.1 hpb (by omega))
    have hm2 : ∀ j v : Nat, v < w.a.owner.length → fracB (meanRes w (agL code 30 j (dualW w).a (mpRes (dualW w) C2) v)) = true ∧ lessF (gf (meansR w) v) (meanRes w (agL code 30 j (dualW w).a (mpRes (dualW w) C2) v)) = false := fun j v hv => by rw [hgm v hv]; have h9 := dual_play hmb hC2 (pL_full hby 30 hxf.1 1 j) hv (agL_is hby 30 j hxf.1 hpb2 (by omega)); exact ⟨h9.2.1, h9.2.2.1⟩
    have hFL1 : ∀ j v : Nat, v < w.a.owner.length → Fn Try.prog tyT 28 [.agg (dFr (meanRes w (agL code 30 j w.a (mpRes w C) v))), .agg (dFr (gf (meansR w) v))] [.c (.bool false)] := fun j v hv => by have h9 := FracLessI_fn _ _ (hm1 j v hv).1 (hvf v hv).1; rw [(hm1 j v hv).2] at h9; exact h9
    have hFL2 : ∀ j v : Nat, v < w.a.owner.length → Fn Try.prog tyT 28 [.agg (dFr (gf (meansR w) v)), .agg (dFr (meanRes w (agL code 30 j (dualW w).a (mpRes (dualW w) C2) v)))] [.c (.bool false)] := fun j v hv => by have h9 := FracLessI_fn _ _ (hvf v hv).1 (hm2 j v hv).1; rw [(hm2 j v hv).2] at h9; exact h9
    have hLM1 := fun (j v : Nat) => LoopMeanI_fn w (agL code 30 j w.a (mpRes w C) v) hLn (playL_len ..)
    have hLM2 := fun (j v : Nat) => LoopMeanI_fn w (agL code 30 j (dualW w).a (mpRes (dualW w) C2) v) hLn (playL_len ..)
    have hF0 := w6Full_fn w.a hLn.a hwf.1 0 (mpRes w C) hpr
    have hF1 := w6Full_fn w.a hLn.a hwf.1 1 (mpRes (dualW w) C2) hpr2
    have hfu0 := fullL_full hwf.1 hpb
    have hfu1 := fullL_full hwf.1 (planB_dual hwb hpb2)
    have hPl := PlayOf_fn w.a hLn.a hwf.1 _ _ hfu0 hfu1 0 (by omega)
    have hlen0 := fullL_len w.a 0 (mpRes w C) w.a.owner.length
    have hlen1 := fullL_len w.a 1 (mpRes (dualW w) C2) w.a.owner.length
    have hLM3 : Fn Try.prog tyT 32 [.agg (dWt w), .agg (dLs (playL w.a (fullL w.a 0 (mpRes w C) w.a.owner.length) (fullL w.a 1 (mpRes (dualW w) C2) w.a.owner.length) 0))] [.agg (dFr (gf (meansR w) 0))] := by have h9 := LoopMeanI_fn w (playL w.a (fullL w.a 0 (mpRes w C) w.a.owner.length) (fullL w.a 1 (mpRes (dualW w) C2) w.a.owner.length) 0) hLn (playL_len ..); have h8 : meanRes w (playL w.a (fullL w.a 0 (mpRes w C) w.a.owner.length) (fullL w.a 1 (mpRes (dualW w) C2) w.a.owner.length) 0) = valF w 0 := both_play hmb hC hC2 (v0 := 0) (by omega) (play_is hwf.1 hfu0 hfu1 (v0 := ((0 : Nat) : Int)) (by omega)); rw [h8] at h9; rw [hgm 0 (by omega)]; exact h9
    clear hgm hm1 hm2 hpo hpo2 hC hC2 hfu0 hfu1 hpb hpb2
    have hxn : (dualW w).a.next.length = w.a.next.length := by rw [dual_next hwb]
    have hxc : (dualW w).cost.length = w.cost.length := dual_clen hwb
    generalize playL w.a (fullL w.a 0 (mpRes w C) w.a.owner.length) (fullL w.a 1 (mpRes (dualW w) C2) w.a.owner.length) 0 = l3 at hPl hLM3
    generalize fullL w.a 0 (mpRes w C) w.a.owner.length = even at *
    generalize fullL w.a 1 (mpRes (dualW w) C2) w.a.owner.length = odd at *
    generalize mpRes w C = own at *
    generalize mpRes (dualW w) C2 = ag at *
    generalize meansR (dualW w) = other at *
    generalize meansR w = cr at *
    clear hxm
    generalize dualW w = x at *
    unfold dLs at hAg1 hAg2 hPl hLM1 hLM2 hLM3
    unfold dAr at hPO hPO2 hAg1 hAg2 hF0 hF1 hPl
    unfold dWt at hW hM hMP hD hM2 hMP2 hAt hLM1 hLM2 hLM3
    unfold dFr at hAt hFL1 hFL2 hLM1 hLM2 hLM3
    refine awp_seq' fun K hK => ?_
    refine awp_regionP 18 tyOk tyPos [] rfl ?_
    simp only [push_cast, ↓brB_true, ↓brB_false, ↓reduceIte, zA, zB, zC, zD, zE, zF, zG, zH, zI, reduceCtorEq]
    all_goals repeat' (first | (apply brB_mk <;> (intro hg; (try simp only [push_cast] at hg))) | (refine ⟨_, hR, ?_⟩; simp only [push_cast, ↓brB_true, ↓brB_false, ↓reduceIte, zA, zB, zC, zD, zE, zF, zG, zH, zI, reduceCtorEq]) | apply And.intro | (intro hg; (try simp only [push_cast] at hg)))
    all_goals try exact gA
    all_goals first | (refine hK _ ?_; clear hK K) | (simp only [push_cast]; done)
    refine awp_seq' fun K hK => ?_
    refine awp_regionN false tyOk tyPos ?_ rfl ?_
    · kernel_rfl
    all_goals refine seqE_cut 2 fun K9 hK9 => ?_
    all_goals simp only [push_cast, ↓brB_true, ↓brB_false, ↓reduceIte, zA, zB, zC, zD, zE, zF, zG, zH, zI, reduceCtorEq]
    all_goals repeat' (first | (apply brB_mk <;> (intro hg; (try simp only [push_cast] at hg))) | (refine ⟨_, _, hW, ?_⟩; simp only [push_cast, ↓brB_true, ↓brB_false, ↓reduceIte, zA, zB, zC, zD, zE, zF, zG, zH, zI, reduceCtorEq]) | apply And.intro | (intro hg; (try simp only [push_cast] at hg)))
    all_goals try exact gA
    all_goals first | (refine hK9 _ ?_; clear hK9 K9) | (simp only [push_cast]; done)
    all_goals simp only [push_cast, ↓brB_true, ↓brB_false, ↓reduceIte, zA, zB, zC, zD, zE, zF, zG, zH, zI, reduceCtorEq]
    all_goals repeat' (first | (apply brB_mk <;> (intro hg; (try simp only [push_cast] at hg))) | (refine ⟨_, _, hW, ?_⟩; simp only [push_cast, ↓brB_true, ↓brB_false, ↓reduceIte, zA, zB, zC, zD, zE, zF, zG, zH, zI, reduceCtorEq]) | apply And.intro | (intro hg; (try simp only [push_cast] at hg)))
    all_goals try exact gA
    all_goals first | (refine hK _ ?_; clear hK K) | (simp only [push_cast]; done)
    refine awp_settleB [.sl 2, .sl 27, .sl 27] 4 ?_
    simp only [push_cast, ↓brB_true, ↓brB_false, ↓reduceIte, zA, zB, zC, zD, zE, zF, zG, zH, zI, reduceCtorEq]
    refine awp_seq' fun K hK => ?_
    refine awp_region tyOk tyPos [] rfl ?_
    all_goals refine aops_cut 2 fun K9 hK9 => ?_
    all_goals simp only [push_cast, ↓brB_true, ↓brB_false, ↓reduceIte, zA, zB, zC, zD, zE, zF, zG, zH, zI, reduceCtorEq]
    all_goals repeat' (first | (apply brB_mk <;> (intro hg; (try simp only [push_cast] at hg))) | (refine ⟨_, hM, ?_⟩; simp only [push_cast, ↓brB_true, ↓brB_false, ↓reduceIte, zA, zB, zC, zD, zE, zF, zG, zH, zI, reduceCtorEq]) | apply And.intro | (intro hg; (try simp only [push_cast] at hg)))
    all_goals try exact gA
    all_goals first | (refine hK9 _ ?_; clear hK9 K9) | (simp only [push_cast]; done)
    all_goals simp only [push_cast, ↓brB_true, ↓brB_false, ↓reduceIte, zA, zB, zC, zD, zE, zF, zG, zH, zI, reduceCtorEq]
    all_goals repeat' (first | (apply brB_mk <;> (intro hg; (try simp only [push_cast] at hg))) | (refine ⟨_, hM, ?_⟩; simp only [push_cast, ↓brB_true, ↓brB_false, ↓reduceIte, zA, zB, zC, zD, zE, zF, zG, zH, zI, reduceCtorEq]) | apply And.intro | (intro hg; (try simp only [push_cast] at hg)))
    all_goals try exact gA
    all_goals first | (refine hK _ ?_; clear hK K) | (simp only [push_cast]; done)
    refine awp_seq' fun K hK => ?_
    refine awp_region tyOk tyPos [] rfl ?_
    all_goals refine aops_cut 2 fun K9 hK9 => ?_
    all_goals simp only [push_cast, ↓brB_true, ↓brB_false, ↓reduceIte, zA, zB, zC, zD, zE, zF, zG, zH, zI, reduceCtorEq]
    all_goals repeat' (first | (apply brB_mk <;> (intro hg; (try simp only [push_cast] at hg))) | (refine ⟨_, hMP, ?_⟩; simp only [push_cast, ↓brB_true, ↓brB_false, ↓reduceIte, zA, zB, zC, zD, zE, zF, zG, zH, zI, reduceCtorEq]) | apply And.intro | (intro hg; (try simp only [push_cast] at hg)))
    all_goals try exact gA
    all_goals first | (refine hK9 _ ?_; clear hK9 K9) | (simp only [push_cast]; done)
    all_goals simp only [push_cast, ↓brB_true, ↓brB_false, ↓reduceIte, zA, zB, zC, zD, zE, zF, zG, zH, zI, reduceCtorEq]
    all_goals repeat' (first | (apply brB_mk <;> (intro hg; (try simp only [push_cast] at hg))) | (refine ⟨_, hMP, ?_⟩; simp only [push_cast, ↓brB_true, ↓brB_false, ↓reduceIte, zA, zB, zC, zD, zE, zF, zG, zH, zI, reduceCtorEq]) | apply And.intro | (intro hg; (try simp only [push_cast] at hg)))
    all_goals try exact gA
    all_goals first | (refine hK _ ?_; clear hK K) | (simp only [push_cast]; done)
    refine awp_seq' fun K hK => ?_
    refine awp_regionN false tyOk tyPos ?_ rfl ?_
    · kernel_rfl
    all_goals refine seqE_cut 2 fun K9 hK9 => ?_
    all_goals simp only [push_cast, ↓brB_true, ↓brB_false, ↓reduceIte, zA, zB, zC, zD, zE, zF, zG, zH, zI, reduceCtorEq]
    all_goals repeat' (first | (apply brB_mk <;> (intro hg; (try simp only [push_cast] at hg))) | (refine ⟨_, hD, ?_⟩; simp only [push_cast, ↓brB_true, ↓brB_false, ↓reduceIte, zA, zB, zC, zD, zE, zF, zG, zH, zI, reduceCtorEq]) | apply And.intro | (intro hg; (try simp only [push_cast] at hg)))
    all_goals try exact gA
    all_goals first | (refine hK9 _ ?_; clear hK9 K9) | (simp only [push_cast]; done)
    all_goals simp only [push_cast, ↓brB_true, ↓brB_false, ↓reduceIte, zA, zB, zC, zD, zE, zF, zG, zH, zI, reduceCtorEq]
    all_goals repeat' (first | (apply brB_mk <;> (intro hg; (try simp only [push_cast] at hg))) | (refine ⟨_, hD, ?_⟩; simp only [push_cast, ↓brB_true, ↓brB_false, ↓reduceIte, zA, zB, zC, zD, zE, zF, zG, zH, zI, reduceCtorEq]) | apply And.intro | (intro hg; (try simp only [push_cast] at hg)))
    all_goals try exact gA
    all_goals first | (refine hK _ ?_; clear hK K) | (simp only [push_cast]; done)
    refine awp_settleB [.sl 2, .sl 27, .sl 27] 7 ?_
    simp only [push_cast, ↓brB_true, ↓brB_false, ↓reduceIte, zA, zB, zC, zD, zE, zF, zG, zH, zI, reduceCtorEq]
    refine awp_seq' fun K hK => ?_
    refine awp_region tyOk tyPos [] rfl ?_
    all_goals refine aops_cut 2 fun K9 hK9 => ?_
    all_goals simp only [push_cast, ↓brB_true, ↓brB_false, ↓reduceIte, zA, zB, zC, zD, zE, zF, zG, zH, zI, reduceCtorEq]
    all_goals repeat' (first | (apply brB_mk <;> (intro hg; (try simp only [push_cast] at hg))) | (refine ⟨_, hM2, ?_⟩; simp only [push_cast, ↓brB_true, ↓brB_false, ↓reduceIte, zA, zB, zC, zD, zE, zF, zG, zH, zI, reduceCtorEq]) | apply And.intro | (intro hg; (try simp only [push_cast] at hg)))
    all_goals try exact gA
    all_goals first | (refine hK9 _ ?_; clear hK9 K9) | (simp only [push_cast]; done)
    all_goals simp only [push_cast, ↓brB_true, ↓brB_false, ↓reduceIte, zA, zB, zC, zD, zE, zF, zG, zH, zI, reduceCtorEq]
    all_goals repeat' (first | (apply brB_mk <;> (intro hg; (try simp only [push_cast] at hg))) | (refine ⟨_, hM2, ?_⟩; simp only [push_cast, ↓brB_true, ↓brB_false, ↓reduceIte, zA, zB, zC, zD, zE, zF, zG, zH, zI, reduceCtorEq]) | apply And.intro | (intro hg; (try simp only [push_cast] at hg)))
    all_goals try exact gA
    all_goals first | (refine hK _ ?_; clear hK K) | (simp only [push_cast]; done)
    refine awp_seq' fun K hK => ?_
    refine awp_region tyOk tyPos [] rfl ?_
    all_goals refine aops_cut 2 fun K9 hK9 => ?_
    all_goals simp only [push_cast, ↓brB_true, ↓brB_false, ↓reduceIte, zA, zB, zC, zD, zE, zF, zG, zH, zI, reduceCtorEq]
    all_goals repeat' (first | (apply brB_mk <;> (intro hg; (try simp only [push_cast] at hg))) | (refine ⟨_, hMP2, ?_⟩; simp only [push_cast, ↓brB_true, ↓brB_false, ↓reduceIte, zA, zB, zC, zD, zE, zF, zG, zH, zI, reduceCtorEq]) | apply And.intro | (intro hg; (try simp only [push_cast] at hg)))
    all_goals try exact gA
    all_goals first | (refine hK9 _ ?_; clear hK9 K9) | (simp only [push_cast]; done)
    all_goals simp only [push_cast, ↓brB_true, ↓brB_false, ↓reduceIte, zA, zB, zC, zD, zE, zF, zG, zH, zI, reduceCtorEq]
    all_goals repeat' (first | (apply brB_mk <;> (intro hg; (try simp only [push_cast] at hg))) | (refine ⟨_, hMP2, ?_⟩; simp only [push_cast, ↓brB_true, ↓brB_false, ↓reduceIte, zA, zB, zC, zD, zE, zF, zG, zH, zI, reduceCtorEq]) | apply And.intro | (intro hg; (try simp only [push_cast] at hg)))
    all_goals try exact gA
    all_goals first | (refine hK _ ?_; clear hK K) | (simp only [push_cast]; done)
    refine awp_seq' fun K2 hK2 => ?_
    refine awp_seq' fun K hK => ?_
    refine awp_regionN false tyOk tyPos ?_ rfl ?_
    · kernel_rfl
    all_goals refine seqE_cut 19 fun K9 hK9 => ?_
    all_goals simp only [push_cast, ↓brB_true, ↓brB_false, ↓reduceIte, zA, zB, zC, zD, zE, zF, zG, zH, zI, reduceCtorEq]
    all_goals repeat' (first | (apply brB_mk <;> (intro hg; (try simp only [push_cast] at hg))) | (refine ⟨_, hPO, ?_⟩; simp only [push_cast, ↓brB_true, ↓brB_false, ↓reduceIte, zA, zB, zC, zD, zE, zF, zG, zH, zI, reduceCtorEq]) | (refine ⟨_, hPO2, ?_⟩; simp only [push_cast, ↓brB_true, ↓brB_false, ↓reduceIte, zA, zB, zC, zD, zE, zF, zG, zH, zI, reduceCtorEq]) | apply And.intro | (intro hg; (try simp only [push_cast] at hg)))
    all_goals try exact gA
    all_goals first | (refine hK9 _ ?_; clear hK9 K9) | (simp only [push_cast]; done)
    all_goals refine seqE_cut 7 fun K9 hK9 => ?_
    all_goals simp only [push_cast, ↓brB_true, ↓brB_false, ↓reduceIte, zA, zB, zC, zD, zE, zF, zG, zH, zI, reduceCtorEq]
    all_goals repeat' (first | (apply brB_mk <;> (intro hg; (try simp only [push_cast] at hg))) | (refine ⟨_, hPO, ?_⟩; simp only [push_cast, ↓brB_true, ↓brB_false, ↓reduceIte, zA, zB, zC, zD, zE, zF, zG, zH, zI, reduceCtorEq]) | (refine ⟨_, hPO2, ?_⟩; simp only [push_cast, ↓brB_true, ↓brB_false, ↓reduceIte, zA, zB, zC, zD, zE, zF, zG, zH, zI, reduceCtorEq]) | apply And.intro | (intro hg; (try simp only [push_cast] at hg)))
    all_goals try exact gA
    all_goals first | (refine hK9 _ ?_; clear hK9 K9) | (simp only [push_cast]; done)
    all_goals simp only [push_cast, ↓brB_true, ↓brB_false, ↓reduceIte, zA, zB, zC, zD, zE, zF, zG, zH, zI, reduceCtorEq]
    all_goals repeat' (first | (apply brB_mk <;> (intro hg; (try simp only [push_cast] at hg))) | (refine ⟨_, hPO, ?_⟩; simp only [push_cast, ↓brB_true, ↓brB_false, ↓reduceIte, zA, zB, zC, zD, zE, zF, zG, zH, zI, reduceCtorEq]) | (refine ⟨_, hPO2, ?_⟩; simp only [push_cast, ↓brB_true, ↓brB_false, ↓reduceIte, zA, zB, zC, zD, zE, zF, zG, zH, zI, reduceCtorEq]) | apply And.intro | (intro hg; (try simp only [push_cast] at hg)))
    all_goals try exact gA
    all_goals first | (refine hK _ ?_; clear hK K) | (simp only [push_cast]; done)
    refine awp_cond rfl (fun hc => ?_) (fun hc => ?_)
    skip
    · exfalso; first | (cases hc; done) | (simp only [push_cast] at hc; done) | (simp only [push_cast] at hc; omega) | omega
    refine awp_skip ?_
    (try simp only [AThen, ABlk, reduceIte, zF]); refine hK2 _ ?_
    refine awp_seq' fun K3 hK3 => ?_
    refine awp_seq' fun K hK => ?_
    refine awp_region tyOk tyPos [] rfl ?_
    simp only [push_cast, ↓brB_true, ↓brB_false, ↓reduceIte, zA, zB, zC, zD, zE, zF, zG, zH, zI, reduceCtorEq]
    repeat' apply And.intro
    all_goals try exact gB
    all_goals first | (refine hK _ ?_; clear hK K) | (simp only [push_cast]; done)
    refine awp_block ?_
    refine awp_loopU [2,4,7,10,11,12,18,37,45,52,59,60,61,62,63,64,65,66,67,68,69,70,71,72,73,74,75,76,77,78,79,80,81,82,83,84,85,86,87,88,89,90,91,92,93,94,95,96,97,98,99,100,101,102,103,104,105,106,107,108,109,110,111,112,113,114,115,116,117,118,119,120,121,122,123,124,125,126,127,128,129,130] [] (fun (p : Nat × Nat) => [(10, .int .i64 p.1), (4, .bp 4 0), (7, .bp 7 0)]) (fun p => [(4, [.sl 64 [] 0 w.a.owner.length 2, .sl 65 [] 0 w.a.next.length 27, .sl 66 [] 0 w.cost.length 27]), (7, [.sl 112 [] 0 x.a.owner.length 2, .sl 113 [] 0 x.a.next.length 27, .sl 114 [] 0 x.cost.length 27]), (18, [.sl 0 [] 0 code.length 5, .int .i64 (nI code p.2), .int .u64 (nH code 30 p.2)])]) (fun p => [(64, ⟨.ex, 2, dI w.a.owner, none⟩), (65, ⟨.ex, 27, dII w.a.next, none⟩), (66, ⟨.ex, 27, dII w.cost, none⟩), (112, ⟨.ex, 2, dI x.a.owner, none⟩), (113, ⟨.ex, 27, dII x.a.next, none⟩), (114, ⟨.ex, 27, dII x.cost, none⟩)]) (fun p => p.1 ≤ w.cost.length) (fun p => w.cost.length - p.1) (0, j1) ?_ (by omega) ?_
    ·
      refine cov_of rfl ?_ ?_ ?_ <;> simp only [covS, covL, push_cast, ↓brB_true, ↓brB_false, ↓reduceIte, zA, zB, zC, zD, zE, zF, zG, zH, zI, reduceCtorEq]
    · rintro ⟨v, j⟩ hv KL0 hL0
      dsimp only at hv
      simp only [push_cast, ↓brB_true, ↓brB_false, ↓reduceIte, zA, zB, zC, zD, zE, zF, zG, zH, zI, reduceCtorEq]
      refine awp_seq' fun K4 hK4 => ?_
      refine awp_seq' fun K hK => ?_
      refine awp_region tyOk tyPos [] rfl ?_
      simp only [push_cast, ↓brB_true, ↓brB_false, ↓reduceIte, zA, zB, zC, zD, zE, zF, zG, zH, zI, reduceCtorEq]
      repeat' apply And.intro
      all_goals try exact gB
      all_goals first | (refine hK _ ?_; clear hK K) | (simp only [push_cast]; done)
      refine awp_cond rfl (fun hc => ?_) (fun hc => ?_) <;> (try simp only [push_cast] at hc)
      ·
        refine awp_skip ?_
        (try simp only [AThen, ABlk, reduceIte, zF]); refine hK4 _ ?_
        refine awp_seq' fun K5 hK5 => ?_
        refine awp_block ?_
        refine awp_seq' fun K6 hK6 => ?_
        have hov := hoth v (by omega)
        have hvb := (hvf v (by omega)).2
        refine awp_seq' fun K hK => ?_
        refine awp_regionD1 false tyOk tyPos tyMix ?_ rfl ?_
        · kernel_rfl
        intro E hE
        all_goals refine lexF_cut 33 (by decide) fun K9 hK9 => ?_
        all_goals simp only [push_cast, ↓brB_true, ↓brB_false, ↓reduceIte, zA, zB, zC, zD, zE, zF, zG, zH, zI, reduceCtorEq]
        all_goals repeat' (first | (apply brB_mk <;> (intro hg; (try simp only [push_cast] at hg))) | (refine ⟨_, hAt v (by omega), ?_⟩; simp only [push_cast, ↓brB_true, ↓brB_false, ↓reduceIte, zA, zB, zC, zD, zE, zF, zG, zH, zI, reduceCtorEq]) | apply And.intro | (intro hg; (try simp only [push_cast] at hg)))
        all_goals try exact gA
        all_goals first | (refine hK9 _ _ ?_; clear hK9 K9) | (simp only [push_cast]; done)
        all_goals simp only [push_cast, ↓brB_true, ↓brB_false, ↓reduceIte, zA, zB, zC, zD, zE, zF, zG, zH, zI, reduceCtorEq]
        all_goals repeat' (first | (apply brB_mk <;> (intro hg; (try simp only [push_cast] at hg))) | (refine ⟨_, hAt v (by omega), ?_⟩; simp only [push_cast, ↓brB_true, ↓brB_false, ↓reduceIte, zA, zB, zC, zD, zE, zF, zG, zH, zI, reduceCtorEq]) | apply And.intro | (intro hg; (try simp only [push_cast] at hg)))
        all_goals first | exact gA | (refine hE _ _ ?_ ?_; kernel_rfl) | skip
        all_goals clear hE E
        all_goals first | (refine hK _ ?_; clear hK K) | (simp only [push_cast]; done)
        all_goals (
            refine awp_cond rfl (fun hc => ?_) (fun hc => ?_)
            skip
            · exfalso; first | (cases hc; done) | (simp only [push_cast] at hc; done) | (simp only [push_cast] at hc; omega) | omega
            refine awp_skip ?_
            (try simp only [AThen, ABlk, reduceIte, zF]); refine hK6 _ ?_
            refine awp_seq' fun K hK => ?_
            refine awp_regionN false tyOk tyPos ?_ rfl ?_
            · kernel_rfl
            all_goals refine seqE_cut 6 fun K9 hK9 => ?_
            all_goals simp only [push_cast, ↓brB_true, ↓brB_false, ↓reduceIte, zA, zB, zC, zD, zE, zF, zG, zH, zI, reduceCtorEq]
            all_goals repeat' (first | (apply brB_mk <;> (intro hg; (try simp only [push_cast] at hg))) | (refine ⟨_, _, hAg1 j v (by omega), ?_⟩; simp only [push_cast, ↓brB_true, ↓brB_false, ↓reduceIte, zA, zB, zC, zD, zE, zF, zG, zH, zI, reduceCtorEq]) | apply And.intro | (intro hg; (try simp only [push_cast] at hg)))
            all_goals try exact gA
            all_goals first | (refine hK9 _ ?_; clear hK9 K9) | (simp only [push_cast]; done)
            all_goals simp only [push_cast, ↓brB_true, ↓brB_false, ↓reduceIte, zA, zB, zC, zD, zE, zF, zG, zH, zI, reduceCtorEq]
            all_goals repeat' (first | (apply brB_mk <;> (intro hg; (try simp only [push_cast] at hg))) | (refine ⟨_, _, hAg1 j v (by omega), ?_⟩; simp only [push_cast, ↓brB_true, ↓brB_false, ↓reduceIte, zA, zB, zC, zD, zE, zF, zG, zH, zI, reduceCtorEq]) | apply And.intro | (intro hg; (try simp only [push_cast] at hg)))
            all_goals try exact gA
            all_goals first | (refine hK _ ?_; clear hK K) | (simp only [push_cast]; done)
            refine awp_settleB [.sl 2, .sl 2] 11 ?_
            simp only [push_cast, ↓brB_true, ↓brB_false, ↓reduceIte, zA, zB, zC, zD, zE, zF, zG, zH, zI, reduceCtorEq]
            refine awp_seq' fun K hK => ?_
            refine awp_regionN false tyOk tyPos ?_ rfl ?_
            · kernel_rfl
            all_goals refine seqE_cut 6 fun K9 hK9 => ?_
            all_goals simp only [push_cast, ↓brB_true, ↓brB_false, ↓reduceIte, zA, zB, zC, zD, zE, zF, zG, zH, zI, reduceCtorEq]
            all_goals repeat' (first | (apply brB_mk <;> (intro hg; (try simp only [push_cast] at hg))) | (refine ⟨_, _, hAg2 (pJ w.a 1 j w.a.owner.length) v (by omega), ?_⟩; simp only [push_cast, ↓brB_true, ↓brB_false, ↓reduceIte, zA, zB, zC, zD, zE, zF, zG, zH, zI, reduceCtorEq]) | apply And.intro | (intro hg; (try simp only [push_cast] at hg)))
            all_goals try exact gA
            all_goals first | (refine hK9 _ ?_; clear hK9 K9) | (simp only [push_cast]; done)
            all_goals simp only [push_cast, ↓brB_true, ↓brB_false, ↓reduceIte, zA, zB, zC, zD, zE, zF, zG, zH, zI, reduceCtorEq]
            all_goals repeat' (first | (apply brB_mk <;> (intro hg; (try simp only [push_cast] at hg))) | (refine ⟨_, _, hAg2 (pJ w.a 1 j w.a.owner.length) v (by omega), ?_⟩; simp only [push_cast, ↓brB_true, ↓brB_false, ↓reduceIte, zA, zB, zC, zD, zE, zF, zG, zH, zI, reduceCtorEq]) | apply And.intro | (intro hg; (try simp only [push_cast] at hg)))
            all_goals try exact gA
            all_goals first | (refine hK _ ?_; clear hK K) | (simp only [push_cast]; done)
            refine awp_settleB [.sl 2, .sl 2] 12 ?_
            simp only [push_cast, ↓brB_true, ↓brB_false, ↓reduceIte, zA, zB, zC, zD, zE, zF, zG, zH, zI, reduceCtorEq]
            refine awp_seq' fun K hK => ?_
            refine awp_regionD1 false tyOk tyPos tyMix ?_ rfl ?_
            · kernel_rfl
            intro E hE
            all_goals refine lexF_cut 3 (by decide) fun K9 hK9 => ?_
            all_goals simp only [push_cast, ↓brB_true, ↓brB_false, ↓reduceIte, zA, zB, zC, zD, zE, zF, zG, zH, zI, reduceCtorEq]
            all_goals repeat' (first | (apply brB_mk <;> (intro hg; (try simp only [push_cast] at hg))) | (refine ⟨_, hLM1 j v, ?_⟩; simp only [push_cast, ↓brB_true, ↓brB_false, ↓reduceIte, zA, zB, zC, zD, zE, zF, zG, zH, zI, reduceCtorEq]) | (refine ⟨_, hLM2 (pJ w.a 1 j w.a.owner.length) v, ?_⟩; simp only [push_cast, ↓brB_true, ↓brB_false, ↓reduceIte, zA, zB, zC, zD, zE, zF, zG, zH, zI, reduceCtorEq]) | apply And.intro | (intro hg; (try simp only [push_cast] at hg)))
            all_goals try exact gA
            all_goals first | (refine hK9 _ _ ?_; clear hK9 K9) | (simp only [push_cast]; done)
            all_goals refine lexF_cut 5 (by decide) fun K9 hK9 => ?_
            all_goals simp only [push_cast, ↓brB_true, ↓brB_false, ↓reduceIte, zA, zB, zC, zD, zE, zF, zG, zH, zI, reduceCtorEq]
            all_goals repeat' (first | (apply brB_mk <;> (intro hg; (try simp only [push_cast] at hg))) | (refine ⟨_, hFL1 j v (by omega), ?_⟩; simp only [push_cast, ↓brB_true, ↓brB_false, ↓reduceIte, zA, zB, zC, zD, zE, zF, zG, zH, zI, reduceCtorEq]) | (refine ⟨_, hFL2 (pJ w.a 1 j w.a.owner.length) v (by omega), ?_⟩; simp only [push_cast, ↓brB_true, ↓brB_false, ↓reduceIte, zA, zB, zC, zD, zE, zF, zG, zH, zI, reduceCtorEq]) | apply And.intro | (intro hg; (try simp only [push_cast] at hg)))
            all_goals try exact gA
            all_goals first | (refine hK9 _ _ ?_; clear hK9 K9) | (simp only [push_cast]; done)
            all_goals refine lexF_cut 8 (by decide) fun K9 hK9 => ?_
            all_goals simp only [push_cast, ↓brB_true, ↓brB_false, ↓reduceIte, zA, zB, zC, zD, zE, zF, zG, zH, zI, reduceCtorEq]
            all_goals repeat' (first | (apply brB_mk <;> (intro hg; (try simp only [push_cast] at hg))) | (refine ⟨_, hLM1 j v, ?_⟩; simp only [push_cast, ↓brB_true, ↓brB_false, ↓reduceIte, zA, zB, zC, zD, zE, zF, zG, zH, zI, reduceCtorEq]) | (refine ⟨_, hLM2 (pJ w.a 1 j w.a.owner.length) v, ?_⟩; simp only [push_cast, ↓brB_true, ↓brB_false, ↓reduceIte, zA, zB, zC, zD, zE, zF, zG, zH, zI, reduceCtorEq]) | apply And.intro | (intro hg; (try simp only [push_cast] at hg)))
            all_goals try exact gA
            all_goals first | (refine hK9 _ _ ?_; clear hK9 K9) | (simp only [push_cast]; done)
            all_goals refine lexF_cut 1 (by decide) fun K9 hK9 => ?_
            all_goals simp only [push_cast, ↓brB_true, ↓brB_false, ↓reduceIte, zA, zB, zC, zD, zE, zF, zG, zH, zI, reduceCtorEq]
            all_goals repeat' (first | (apply brB_mk <;> (intro hg; (try simp only [push_cast] at hg))) | (refine ⟨_, hFL1 j v (by omega), ?_⟩; simp only [push_cast, ↓brB_true, ↓brB_false, ↓reduceIte, zA, zB, zC, zD, zE, zF, zG, zH, zI, reduceCtorEq]) | (refine ⟨_, hFL2 (pJ w.a 1 j w.a.owner.length) v (by omega), ?_⟩; simp only [push_cast, ↓brB_true, ↓brB_false, ↓reduceIte, zA, zB, zC, zD, zE, zF, zG, zH, zI, reduceCtorEq]) | apply And.intro | (intro hg; (try simp only [push_cast] at hg)))
            all_goals try exact gA
            all_goals first | (refine hK9 _ _ ?_; clear hK9 K9) | (simp only [push_cast]; done)
            all_goals simp only [push_cast, ↓brB_true, ↓brB_false, ↓reduceIte, zA, zB, zC, zD, zE, zF, zG, zH, zI, reduceCtorEq]
            all_goals repeat' (first | (apply brB_mk <;> (intro hg; (try simp only [push_cast] at hg))) | (refine ⟨_, hLM1 j v, ?_⟩; simp only [push_cast, ↓brB_true, ↓brB_false, ↓reduceIte, zA, zB, zC, zD, zE, zF, zG, zH, zI, reduceCtorEq]) | (refine ⟨_, hLM2 (pJ w.a 1 j w.a.owner.length) v, ?_⟩; simp only [push_cast, ↓brB_true, ↓brB_false, ↓reduceIte, zA, zB, zC, zD, zE, zF, zG, zH, zI, reduceCtorEq]) | (refine ⟨_, hFL1 j v (by omega), ?_⟩; simp only [push_cast, ↓brB_true, ↓brB_false, ↓reduceIte, zA, zB, zC, zD, zE, zF, zG, zH, zI, reduceCtorEq]) | (refine ⟨_, hFL2 (pJ w.a 1 j w.a.owner.length) v (by omega), ?_⟩; simp only [push_cast, ↓brB_true, ↓brB_false, ↓reduceIte, zA, zB, zC, zD, zE, zF, zG, zH, zI, reduceCtorEq]) | apply And.intro | (intro hg; (try simp only [push_cast] at hg)))
            all_goals first | exact gA | (refine hE _ _ ?_ ?_; kernel_rfl) | skip
            all_goals clear hE E
            all_goals first | (refine hK _ ?_; clear hK K) | (simp only [push_cast]; done)
            all_goals (
                refine awp_cond rfl (fun hc => ?_) (fun hc => ?_)
                skip
                · exfalso; first | (cases hc; done) | (simp only [push_cast] at hc; done) | (simp only [push_cast] at hc; omega) | omega
                refine awp_skip ?_
                (try simp only [AThen, ABlk, reduceIte, zF]); refine hK5 _ ?_
                refine awp_region tyOk tyPos [] rfl ?_
                simp only [push_cast, ↓brB_true, ↓brB_false, ↓reduceIte, zA, zB, zC, zD, zE, zF, zG, zH, zI, reduceCtorEq]
                repeat' apply And.intro
                all_goals try exact gB
                refine hL0 _ ⟨(v + 1, pJ x.a 1 (pJ w.a 1 j w.a.owner.length) x.a.owner.length), by dsimp only; omega, by dsimp only; omega, ?_⟩
                refine cov_of rfl ?_ ?_ ?_ <;> simp only [covS, covL, push_cast, ↓brB_true, ↓brB_false, ↓reduceIte, zA, zB, zC, zD, zE, zF, zG, zH, zI, reduceCtorEq]))
      ·
        refine awp_exit ?_
        have hvv : v = w.cost.length := by omega
        subst hvv
        (try simp only [AThen, ABlk, reduceIte, zF]); refine hK3 _ ?_
        refine awp_seq' fun K hK => ?_
        refine awp_regionD1 false tyOk tyPos tyMix ?_ rfl ?_
        · kernel_rfl
        intro E hE
        all_goals refine lexF_cut 6 (by decide) fun K9 hK9 => ?_
        all_goals simp only [push_cast, ↓brB_true, ↓brB_false, ↓reduceIte, zA, zB, zC, zD, zE, zF, zG, zH, zI, reduceCtorEq]
        all_goals repeat' (first | (apply brB_mk <;> (intro hg; (try simp only [push_cast] at hg))) | (refine ⟨_, hF0, ?_⟩; simp only [push_cast, ↓brB_true, ↓brB_false, ↓reduceIte, zA, zB, zC, zD, zE, zF, zG, zH, zI, reduceCtorEq]) | (refine ⟨_, hF1, ?_⟩; simp only [push_cast, ↓brB_true, ↓brB_false, ↓reduceIte, zA, zB, zC, zD, zE, zF, zG, zH, zI, reduceCtorEq]) | apply And.intro | (intro hg; (try simp only [push_cast] at hg)))
        all_goals try exact gA
        all_goals first | (refine hK9 _ _ ?_; clear hK9 K9) | (simp only [push_cast]; done)
        all_goals refine lexF_cut 4 (by decide) fun K9 hK9 => ?_
        all_goals simp only [push_cast, ↓brB_true, ↓brB_false, ↓reduceIte, zA, zB, zC, zD, zE, zF, zG, zH, zI, reduceCtorEq]
        all_goals repeat' (first | (apply brB_mk <;> (intro hg; (try simp only [push_cast] at hg))) | (refine ⟨_, hF0, ?_⟩; simp only [push_cast, ↓brB_true, ↓brB_false, ↓reduceIte, zA, zB, zC, zD, zE, zF, zG, zH, zI, reduceCtorEq]) | (refine ⟨_, hF1, ?_⟩; simp only [push_cast, ↓brB_true, ↓brB_false, ↓reduceIte, zA, zB, zC, zD, zE, zF, zG, zH, zI, reduceCtorEq]) | apply And.intro | (intro hg; (try simp only [push_cast] at hg)))
        all_goals try exact gA
        all_goals first | (refine hK9 _ _ ?_; clear hK9 K9) | (simp only [push_cast]; done)
        all_goals refine lexF_cut 1 (by decide) fun K9 hK9 => ?_
        all_goals simp only [push_cast, ↓brB_true, ↓brB_false, ↓reduceIte, zA, zB, zC, zD, zE, zF, zG, zH, zI, reduceCtorEq]
        all_goals repeat' (first | (apply brB_mk <;> (intro hg; (try simp only [push_cast] at hg))) | (refine ⟨_, hPl, ?_⟩; simp only [push_cast, ↓brB_true, ↓brB_false, ↓reduceIte, zA, zB, zC, zD, zE, zF, zG, zH, zI, reduceCtorEq]) | apply And.intro | (intro hg; (try simp only [push_cast] at hg)))
        all_goals try exact gA
        all_goals first | (refine hK9 _ _ ?_; clear hK9 K9) | (simp only [push_cast]; done)
        all_goals simp only [push_cast, ↓brB_true, ↓brB_false, ↓reduceIte, zA, zB, zC, zD, zE, zF, zG, zH, zI, reduceCtorEq]
        all_goals repeat' (first | (apply brB_mk <;> (intro hg; (try simp only [push_cast] at hg))) | (refine ⟨_, hF0, ?_⟩; simp only [push_cast, ↓brB_true, ↓brB_false, ↓reduceIte, zA, zB, zC, zD, zE, zF, zG, zH, zI, reduceCtorEq]) | (refine ⟨_, hF1, ?_⟩; simp only [push_cast, ↓brB_true, ↓brB_false, ↓reduceIte, zA, zB, zC, zD, zE, zF, zG, zH, zI, reduceCtorEq]) | (refine ⟨_, hPl, ?_⟩; simp only [push_cast, ↓brB_true, ↓brB_false, ↓reduceIte, zA, zB, zC, zD, zE, zF, zG, zH, zI, reduceCtorEq]) | apply And.intro | (intro hg; (try simp only [push_cast] at hg)))
        all_goals first | exact gA | (refine hE _ _ ?_ ?_; kernel_rfl) | skip
        all_goals clear hE E
        all_goals first | (refine hK _ ?_; clear hK K) | (simp only [push_cast]; done)
        refine awp_settleB [.sl 2, .sl 2] 13 ?_
        simp only [push_cast, ↓brB_true, ↓brB_false, ↓reduceIte, zA, zB, zC, zD, zE, zF, zG, zH, zI, reduceCtorEq]
        have hg0 : getI (dFrs cr) 0 = (gf cr 0).num := getI_dFrs0 cr 0
        have hg1 : getI (dFrs cr) 1 = (gf cr 0).den := getI_dFrs1 cr 0
        refine awp_seq' fun K hK => ?_
        refine awp_regionD1 false tyOk tyPos tyMix ?_ rfl ?_
        · kernel_rfl
        intro E hE
        all_goals refine lexF_cut 3 (by decide) fun K9 hK9 => ?_
        all_goals simp only [push_cast, ↓brB_true, ↓brB_false, ↓reduceIte, zA, zB, zC, zD, zE, zF, zG, zH, zI, reduceCtorEq]
        all_goals repeat' (first | (apply brB_mk <;> (intro hg; (try simp only [push_cast] at hg))) | (refine ⟨_, hLM3, ?_⟩; simp only [push_cast, ↓brB_true, ↓brB_false, ↓reduceIte, zA, zB, zC, zD, zE, zF, zG, zH, zI, reduceCtorEq]) | apply And.intro | (intro hg; (try simp only [push_cast] at hg)))
        all_goals first | exact gA | (show HasC (.int .i64) (dFrs cr) (0 * 2); rw [HasC_dFrs0]; omega) | (show HasC (.int .i64) (dFrs cr) (0 * 2 + 1); rw [HasC_dFrs1]; omega) | skip
        all_goals first | (refine hK9 _ _ ?_; clear hK9 K9) | (simp only [push_cast]; done)
        all_goals simp only [push_cast, ↓brB_true, ↓brB_false, ↓reduceIte, zA, zB, zC, zD, zE, zF, zG, zH, zI, reduceCtorEq]
        all_goals repeat' (first | (apply brB_mk <;> (intro hg; (try simp only [push_cast] at hg))) | (refine ⟨_, hLM3, ?_⟩; simp only [push_cast, ↓brB_true, ↓brB_false, ↓reduceIte, zA, zB, zC, zD, zE, zF, zG, zH, zI, reduceCtorEq]) | apply And.intro | (intro hg; (try simp only [push_cast] at hg)))
        all_goals first | exact gA | (refine hE _ _ ?_ ?_; kernel_rfl) | (show HasC (.int .i64) (dFrs cr) (0 * 2); rw [HasC_dFrs0]; omega) | (show HasC (.int .i64) (dFrs cr) (0 * 2 + 1); rw [HasC_dFrs1]; omega) | skip
        all_goals clear hE E
        all_goals first | (refine hK _ ?_; clear hK K) | (simp only [push_cast]; done)
        refine awp_ret ?_
        (try simp only [AThen, ABlk])
        refine ⟨Or.inl rfl, ?_⟩
        simp only [RetOk, push_cast, ↓brB_true, ↓brB_false, ↓reduceIte, zA, zB, zC, zD, zE, zF, zG, zH, zI, reduceCtorEq]
        all_goals (try rw [hg0])
        all_goals (try rw [hg1])
        all_goals first | rfl | (simp; done)
set_option maxRecDepth 100000 in
theorem Mean_lifted (os : Os) (started : os.Started) (H : Type) (enc : TypeId × Value → H) :
    ReturnsInHanded {} Try.checked os 6 .any (Rows.fnMeanSpec.pre6 enc Try.prog Try.f6 Rows.fnMeanRow.domain false) (Rows.fnMeanSpec.post enc Try.prog Try.f6 false true false false) := by
  refine returnsInHanded_of_change (C := Try.checked) own_law started (by kernel_rfl) Try.func6
    (ChangeSpec.witness6 (enc := enc) (C := Try.checked) false ⟨#[], #[.slice none 0 0], []⟩ 8 (by kernel_rfl) (by kernel_rfl) (by kernel_rfl) (by kernel_rfl)) ?_
  intro W base args ds gs before hval0 hW hcnd _
  have hval : ∀ (j : Nat) t v, Try.f6.params[j]? = some t → args[j]? = some v → Value.okWide Try.prog W .any base t v := hval0
  have hW0 := hW
  obtain ⟨p, q, hA0, hV, rfl, hfz, hnd⟩ := hW
  have hA : DataW.TrodAll enc Try.prog W 0 (fun _ => true) true Try.f6.params.toList args.toList ds p := hA0
  obtain ⟨rfl, rfl⟩ := trodVars_none hV
  have hlt : ∀ x ∈ p, x.block < W.heap.size := fun x hx => hW0.lt x (by simp [hx])
  rw [Try.params6] at hA hval
  clear hA0 hval0 hV
  obtain ⟨v0, vs0, d0, ds0, p0, q0, hargs, rfl, rfl, h0, r0⟩ := trodAll_cons hA
  obtain ⟨rfl, rfl, rfl⟩ := trodAll_nil r0
  obtain rfl : args = #[v0] := by cases args; simp_all
  obtain ⟨a0, w0, g0, m0⟩ := arg_U (lo := W.heap.size) (hval 0 _ v0 rfl rfl) h0
  have hL := law a0 m0 g0
  refine (law_true (cargs := [v0]) hL (by simp only [ArgsR]; exact ⟨v0, _, rfl, w0, rfl⟩)).mono fun e W' he => ?_
  obtain ⟨rfl, hb⟩ := he
  exact ⟨_, rfl, law_post lay_law (by rw [Try.params6]; decide +kernel) (by kernel_rfl) Try.underlying4 rfl hW0 rfl rfl rfl hb (fun W' => okWide_bool_mk Try.underlying4 true)⟩

theorem Mean_over : Rows.fnMeanRow.holds Try.pinned (OpenSpec.ofChange Rows.fnMeanSpec) :=
  OpenClaim.holds_of_wide 6 Try.f6 rfl rfl rfl rfl rfl rfl rfl ⟨rfl, rfl, rfl, rfl, rfl⟩ rfl rfl rfl rfl rfl (by kernel_rfl) Try.func6 (by kernel_rfl)
    (of_decide_eq_true (by kernel_rfl)) (by unfold Func.isWrapper; first | (rw [if_pos (by decide +kernel)]; kernel_rfl) | (rw [if_neg (by decide +kernel)]; exact ⟨rfl, rfl⟩))
    (fun os started H enc _ => Mean_lifted os started H enc)

theorem Mean_holds : Rows.FnMeanSaid := Mean_over
end lawFnMean
end Go.Proofs.Ytdbecmmeifdafaa
