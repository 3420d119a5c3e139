/- The statement on FnCreditLeast: whatever the dice, every plan of player 0 needs at least the reported credit, and the returned plan needs exactly that. -/
import Derived.Test.YtdbecmmeifdafaaGOzcl
import Derived.Test.YtdbecmmeifdafaaOBzcl
import Derived.Test.YtdbecmmeifdafaaDmzcl
import Derived.Test.YtdbecmmeifdafaaDqzcl
import Derived.Test.YtdbecmmeifdafaaDwzcl
import Derived.Test.YtdbecmmeifdafaaDxzcl
namespace Go.Proofs.Ytdbecmmeifdafaa
open Nat renaming reduceMod → zA, reduceMul → zB, reduceDiv → zC, reduceAdd → zD, reduceSub → zE, reduceEqDiff → zF, reduceBEq → zG, reduceLT → zH, reduceLeDiff → zI
open Go.RowKit
set_option linter.unusedVariables false
set_option linter.unusedSimpArgs false

attribute [-push_cast] rm
theorem wt_ln {w : Wt} (h : weightedB w = true) : w.Ln 1048576 := by
  obtain ⟨h1, h2, h3, h4, h5, h6⟩ := weighted_facts h
  refine ⟨⟨by unfold LnI; omega, by omega, fun r hr => ?_⟩, by omega, fun r hr => ?_⟩
  · obtain ⟨v, hv, rfl⟩ := mem_gl hr
    have := (h6 v (by omega)).2.2.1
    omega
  · obtain ⟨v, hv, rfl⟩ := mem_gl hr
    have h7 := h6 v (by omega)
    have := h7.2.2.1
    have := h7.1
    omega
namespace lawFnCreditLeast
open Go.ChangeShapes Go.WideShapes Go.ChangeAt Go.Joins
theorem own_law : ownKnob Try.prog.godebug = none := by kernel_rfl
theorem lay_law : laidOutB Try.prog = true := by kernel_rfl
set_option maxRecDepth 20000 in
set_option maxHeartbeats 4000000 in
theorem law (code : List Int) (hl : code.length ≤ 9223372036854775807) (hbt : ∀ k, k < code.length → 0 ≤ gi code k ∧ gi code k ≤ 255) : Fn Try.prog tyT 3 [.c (.lst 5 (dU code))] [.c (.bool true)] := by
  have hBig := big_fn code hl
  refine Fn_of (fn := Try.f3) (ts := [2]) Try.func3 (by kernel_rfl) rfl rfl (by rw [Try.ntmps3]; exact Nat.le_of_ble_eq_true rfl) rfl (by simp only [szA, List.mem_cons, List.not_mem_nil, or_false, forall_eq_or_imp, forall_eq, VT.cells, szL]; try decide) ?_
  rw [Try.ntmps3]
  simp only [push_cast, ↓brB_true, ↓brB_false, ↓reduceIte, zA, zB, zC, zD, zE, zF, zG, zH, zI, reduceCtorEq]
  refine awp_seq' fun K hK => ?_
  refine awp_region tyOk tyPos [] rfl ?_
  simp only [push_cast, ↓brB_true, ↓brB_false, ↓reduceIte, zA, zB, zC, zD, zE, zF, zG, zH, zI, reduceCtorEq]
  repeat' apply And.intro
  all_goals first | exact True.intro | exact rfl | omega | with_reducible assumption | (simp only [List.length_set, List.length_append, List.length_replicate, List.length_cons, List.length_nil]; omega) | skip
  all_goals first | (refine hK _ ?_; clear hK K) | (simp only [push_cast]; done)
  refine awp_seq' fun K1 hK1 => ?_
  refine awp_seq' fun K hK => ?_
  refine awp_region tyOk tyPos [] rfl ?_
  all_goals refine aops_cut 2 fun K9 hK9 => ?_
  all_goals simp only [push_cast, ↓brB_true, ↓brB_false, ↓reduceIte, zA, zB, zC, zD, zE, zF, zG, zH, zI, reduceCtorEq]
  all_goals repeat' (first | (apply brB_mk <;> (intro hg; (try simp only [push_cast] at hg))) | (refine ⟨_, hBig, ?_⟩; simp only [push_cast, ↓brB_true, ↓brB_false, ↓reduceIte, zA, zB, zC, zD, zE, zF, zG, zH, zI, reduceCtorEq]) | apply And.intro | (intro hg; (try simp only [push_cast] at hg)))
  all_goals first | exact True.intro | exact rfl | contradiction | omega | with_reducible assumption | skip
  all_goals first | (refine hK9 _ ?_; clear hK9 K9) | (simp only [push_cast]; done)
  all_goals simp only [push_cast, ↓brB_true, ↓brB_false, ↓reduceIte, zA, zB, zC, zD, zE, zF, zG, zH, zI, reduceCtorEq]
  all_goals repeat' (first | (apply brB_mk <;> (intro hg; (try simp only [push_cast] at hg))) | (refine ⟨_, hBig, ?_⟩; simp only [push_cast, ↓brB_true, ↓brB_false, ↓reduceIte, zA, zB, zC, zD, zE, zF, zG, zH, zI, reduceCtorEq]) | apply And.intro | (intro hg; (try simp only [push_cast] at hg)))
  all_goals first | exact True.intro | exact rfl | contradiction | omega | with_reducible assumption | skip
  all_goals first | (refine hK _ ?_; clear hK K) | (simp only [push_cast]; done)
  refine awp_cond rfl (fun hc => ?_) (fun hc => ?_) <;> (try simp only [push_cast] at hc)
  ·
    refine awp_seq' fun K hK => ?_
    refine awp_region tyOk tyPos [] rfl ?_
    simp only [push_cast, ↓brB_true, ↓brB_false, ↓reduceIte, zA, zB, zC, zD, zE, zF, zG, zH, zI, reduceCtorEq]
    repeat' apply And.intro
    all_goals first | exact True.intro | exact rfl | omega | with_reducible assumption | (simp only [List.length_set, List.length_append, List.length_replicate, List.length_cons, List.length_nil]; omega) | skip
    all_goals first | (refine hK _ ?_; clear hK K) | (simp only [push_cast]; done)
    refine awp_ret ?_
    (try simp only [AThen, ABlk])
    refine ⟨Or.inl rfl, ?_⟩
    simp only [RetOk, push_cast, ↓brB_true, ↓brB_false, ↓reduceIte, zA, zB, zC, zD, zE, zF, zG, zH, zI, reduceCtorEq]
  ·
    refine awp_skip ?_
    (try simp only [AThen, ABlk, reduceIte, zF]); refine hK1 _ ?_
    have hby : BytesOk code := ⟨by omega, hbt⟩
    have hR := roll0_fn code hby 29 (by omega)
    have hW := w6Weighted_fn code hby 29 0 6 5 (by omega) (by omega)
    have hwb := wtW_ok hby 29 0 (most := 6) (size := 5) (by omega) (by omega)
    have hno : (wtW code 29 0 6 5).a.owner.length ≤ 6 := by have h1 := (arA_len (code := code) (seed := 29) (j := 0) (most := 6)).1; have h2 := arN_le hby 29 0 (most := 6) (by omega); show (arA code 29 0 6).owner.length ≤ 6; omega
    generalize wtW code 29 0 6 5 = w at hW hwb hno
    generalize wtJ code 29 0 6 = j1 at hW
    have hwf := weighted_facts hwb
    have hLn := wt_ln hwb
    obtain ⟨c, hc9⟩ := credit_ex w
    have hc := hc9 hwb
    have hC := CreditOfS_fn w hLn c hc9
    have hP := w6Plan_fn code hby 29 j1 w.a hwf.1 0
    have hpo := pL_ok hby 29 hwf.1 (who := 0) (by omega) j1
    have hpl := pL_len code 29 w.a 0 j1 w.a.owner.length
    generalize pL code 29 w.a 0 j1 w.a.owner.length = plan at hP hpo hpl
    generalize pJ w.a 0 j1 w.a.owner.length = j2 at hP
    have hb1 : fwB w 0 plan = true := by unfold fwB; rw [hwb, hpo]; rfl
    have hFx := FixedWeightedI_fn w hLn 0 plan (by unfold LnI; omega)
    rw [hb1, fw_yes hb1] at hFx
    have hxb := fix_weighted hwb hpo
    have hLx := wt_ln hxb
    have hWx := WeightedOkS_fn _ hLx
    rw [hxb] at hWx
    obtain ⟨cx, hcx9⟩ := credit_ex (fixW w plan)
    have hCx := CreditOfI_fn _ hLx cx hcx9
    have hmore := more_law hwb hpo hc (hcx9 hxb)
    have hno1 : (fixW w plan).a.owner.length = w.a.owner.length := rfl
    have hnx1 : (fixW w plan).a.next.length = w.a.next.length := fixL_len (Nat.le_refl _)
    have hcx1 : (fixW w plan).cost.length = w.cost.length := fixL_len (Nat.le_refl _)
    have hCP := CreditPlanI_fn w hLn c hc9
    have hpo2 := plan_right hwb hc
    have hb2 : fwB w 0 (planRes w c) = true := by unfold fwB; rw [hwb, hpo2]; rfl
    have hFy := FixedWeightedI_fn w hLn 0 (planRes w c) planRes_len
    rw [hb2, fw_yes hb2] at hFy
    have hyb := fix_weighted hwb hpo2
    have hLy := wt_ln hyb
    have hWy := WeightedOkS_fn _ hLy
    rw [hyb] at hWy
    obtain ⟨cy, hcy9⟩ := credit_ex (fixW w (planRes w c))
    have hCy := CreditOfI_fn _ hLy cy hcy9
    rw [own_law' hwb hc (hcy9 hyb)] at hCy
    have hny1 : (fixW w (planRes w c)).a.next.length = w.a.next.length := fixL_len (Nat.le_refl _)
    have hcy1 : (fixW w (planRes w c)).cost.length = w.cost.length := fixL_len (Nat.le_refl _)
    have hny0 : (fixW w (planRes w c)).a.owner.length = w.a.owner.length := rfl
    have hpr := planRes_len (w := w) (c := c)
    unfold LnI at hpr
    have hLk := likeInts_same (creditRes w c) (by have := creditRes_len hc9; unfold LnI at this; exact this)
    have hkl : (creditRes w c).length ≤ 24 := by rw [creditRes_yes hwb, List.length_map, hc.len]; omega
    generalize fixW w plan = x at *
    generalize planRes w c = own at *
    generalize fixW w own = y at *
    generalize creditRes w c = cr at *
    generalize creditRes x cx = more at *
    unfold dAr at hP
    unfold dWt at hW hC hFx hFy hWx hWy hCP hCx hCy
    refine awp_seq' fun K hK => ?_
    refine awp_regionP 16 tyOk tyPos [] rfl ?_
    simp only [push_cast, ↓brB_true, ↓brB_false, ↓reduceIte, zA, zB, zC, zD, zE, zF, zG, zH, zI, reduceCtorEq]
    all_goals repeat' (first | (apply brB_mk <;> (intro hg; (try simp only [push_cast] at hg))) | (refine ⟨_, hR, ?_⟩; simp only [push_cast, ↓brB_true, ↓brB_false, ↓reduceIte, zA, zB, zC, zD, zE, zF, zG, zH, zI, reduceCtorEq]) | apply And.intro | (intro hg; (try simp only [push_cast] at hg)))
    all_goals first | exact True.intro | exact rfl | contradiction | omega | with_reducible assumption | skip
    all_goals first | (refine hK _ ?_; clear hK K) | (simp only [push_cast]; done)
    refine awp_seq' fun K hK => ?_
    refine awp_regionN false tyOk tyPos ?_ rfl ?_
    · kernel_rfl
    all_goals refine seqE_cut 2 fun K9 hK9 => ?_
    all_goals simp only [push_cast, ↓brB_true, ↓brB_false, ↓reduceIte, zA, zB, zC, zD, zE, zF, zG, zH, zI, reduceCtorEq]
    all_goals repeat' (first | (apply brB_mk <;> (intro hg; (try simp only [push_cast] at hg))) | (refine ⟨_, _, hW, ?_⟩; simp only [push_cast, ↓brB_true, ↓brB_false, ↓reduceIte, zA, zB, zC, zD, zE, zF, zG, zH, zI, reduceCtorEq]) | apply And.intro | (intro hg; (try simp only [push_cast] at hg)))
    all_goals first | exact True.intro | exact rfl | contradiction | omega | with_reducible assumption | skip
    all_goals first | (refine hK9 _ ?_; clear hK9 K9) | (simp only [push_cast]; done)
    all_goals simp only [push_cast, ↓brB_true, ↓brB_false, ↓reduceIte, zA, zB, zC, zD, zE, zF, zG, zH, zI, reduceCtorEq]
    all_goals repeat' (first | (apply brB_mk <;> (intro hg; (try simp only [push_cast] at hg))) | (refine ⟨_, _, hW, ?_⟩; simp only [push_cast, ↓brB_true, ↓brB_false, ↓reduceIte, zA, zB, zC, zD, zE, zF, zG, zH, zI, reduceCtorEq]) | apply And.intro | (intro hg; (try simp only [push_cast] at hg)))
    all_goals first | exact True.intro | exact rfl | contradiction | omega | with_reducible assumption | skip
    all_goals first | (refine hK _ ?_; clear hK K) | (simp only [push_cast]; done)
    refine awp_settleB [.sl 2, .sl 27, .sl 27] 4 ?_
    simp only [push_cast, ↓brB_true, ↓brB_false, ↓reduceIte, zA, zB, zC, zD, zE, zF, zG, zH, zI, reduceCtorEq]
    refine awp_seq' fun K hK => ?_
    refine awp_region tyOk tyPos [] rfl ?_
    all_goals refine aops_cut 2 fun K9 hK9 => ?_
    all_goals simp only [push_cast, ↓brB_true, ↓brB_false, ↓reduceIte, zA, zB, zC, zD, zE, zF, zG, zH, zI, reduceCtorEq]
    all_goals repeat' (first | (apply brB_mk <;> (intro hg; (try simp only [push_cast] at hg))) | (refine ⟨_, hC, ?_⟩; simp only [push_cast, ↓brB_true, ↓brB_false, ↓reduceIte, zA, zB, zC, zD, zE, zF, zG, zH, zI, reduceCtorEq]) | apply And.intro | (intro hg; (try simp only [push_cast] at hg)))
    all_goals first | exact True.intro | exact rfl | contradiction | omega | with_reducible assumption | skip
    all_goals first | (refine hK9 _ ?_; clear hK9 K9) | (simp only [push_cast]; done)
    all_goals simp only [push_cast, ↓brB_true, ↓brB_false, ↓reduceIte, zA, zB, zC, zD, zE, zF, zG, zH, zI, reduceCtorEq]
    all_goals repeat' (first | (apply brB_mk <;> (intro hg; (try simp only [push_cast] at hg))) | (refine ⟨_, hC, ?_⟩; simp only [push_cast, ↓brB_true, ↓brB_false, ↓reduceIte, zA, zB, zC, zD, zE, zF, zG, zH, zI, reduceCtorEq]) | apply And.intro | (intro hg; (try simp only [push_cast] at hg)))
    all_goals first | exact True.intro | exact rfl | contradiction | omega | with_reducible assumption | skip
    all_goals first | (refine hK _ ?_; clear hK K) | (simp only [push_cast]; done)
    refine awp_seq' fun K hK => ?_
    refine awp_regionD1 false tyOk tyPos tyMix ?_ rfl ?_
    · kernel_rfl
    intro E hE
    all_goals refine lexF_cut 5 (by decide) fun K9 hK9 => ?_
    all_goals simp only [push_cast, ↓brB_true, ↓brB_false, ↓reduceIte, zA, zB, zC, zD, zE, zF, zG, zH, zI, reduceCtorEq]
    all_goals repeat' (first | (apply brB_mk <;> (intro hg; (try simp only [push_cast] at hg))) | (refine ⟨_, _, hP, ?_⟩; simp only [push_cast, ↓brB_true, ↓brB_false, ↓reduceIte, zA, zB, zC, zD, zE, zF, zG, zH, zI, reduceCtorEq]) | apply And.intro | (intro hg; (try simp only [push_cast] at hg)))
    all_goals first | exact True.intro | exact rfl | contradiction | omega | with_reducible assumption | skip
    all_goals first | (refine hK9 _ _ ?_; clear hK9 K9) | (simp only [push_cast]; done)
    all_goals refine lexF_cut 1 (by decide) fun K9 hK9 => ?_
    all_goals simp only [push_cast, ↓brB_true, ↓brB_false, ↓reduceIte, zA, zB, zC, zD, zE, zF, zG, zH, zI, reduceCtorEq]
    all_goals repeat' (first | (apply brB_mk <;> (intro hg; (try simp only [push_cast] at hg))) | (refine ⟨_, hFx, ?_⟩; simp only [push_cast, ↓brB_true, ↓brB_false, ↓reduceIte, zA, zB, zC, zD, zE, zF, zG, zH, zI, reduceCtorEq]) | apply And.intro | (intro hg; (try simp only [push_cast] at hg)))
    all_goals first | exact True.intro | exact rfl | contradiction | omega | with_reducible assumption | skip
    all_goals first | (refine hK9 _ _ ?_; clear hK9 K9) | (simp only [push_cast]; done)
    all_goals simp only [push_cast, ↓brB_true, ↓brB_false, ↓reduceIte, zA, zB, zC, zD, zE, zF, zG, zH, zI, reduceCtorEq]
    all_goals repeat' (first | (apply brB_mk <;> (intro hg; (try simp only [push_cast] at hg))) | (refine ⟨_, _, hP, ?_⟩; simp only [push_cast, ↓brB_true, ↓brB_false, ↓reduceIte, zA, zB, zC, zD, zE, zF, zG, zH, zI, reduceCtorEq]) | (refine ⟨_, hFx, ?_⟩; simp only [push_cast, ↓brB_true, ↓brB_false, ↓reduceIte, zA, zB, zC, zD, zE, zF, zG, zH, zI, reduceCtorEq]) | apply And.intro | (intro hg; (try simp only [push_cast] at hg)))
    all_goals first | exact True.intro | exact rfl | contradiction | omega | with_reducible assumption | (refine hE _ _ ?_ ?_; kernel_rfl) | skip
    all_goals clear hE E
    all_goals first | (refine hK _ ?_; clear hK K) | (simp only [push_cast]; done)
    refine awp_settleB [.sl 2, .sl 27, .sl 27] 6 ?_
    simp only [push_cast, ↓brB_true, ↓brB_false, ↓reduceIte, zA, zB, zC, zD, zE, zF, zG, zH, zI, reduceCtorEq]
    refine awp_seq' fun K hK => ?_
    refine awp_regionD1 false tyOk tyPos tyMix ?_ rfl ?_
    · kernel_rfl
    intro E hE
    all_goals refine lexF_cut 3 (by decide) fun K9 hK9 => ?_
    all_goals simp only [push_cast, ↓brB_true, ↓brB_false, ↓reduceIte, zA, zB, zC, zD, zE, zF, zG, zH, zI, reduceCtorEq]
    all_goals repeat' (first | (apply brB_mk <;> (intro hg; (try simp only [push_cast] at hg))) | (refine ⟨_, hCP, ?_⟩; simp only [push_cast, ↓brB_true, ↓brB_false, ↓reduceIte, zA, zB, zC, zD, zE, zF, zG, zH, zI, reduceCtorEq]) | apply And.intro | (intro hg; (try simp only [push_cast] at hg)))
    all_goals first | exact True.intro | exact rfl | contradiction | omega | with_reducible assumption | skip
    all_goals first | (refine hK9 _ _ ?_; clear hK9 K9) | (simp only [push_cast]; done)
    all_goals refine lexF_cut 1 (by decide) fun K9 hK9 => ?_
    all_goals simp only [push_cast, ↓brB_true, ↓brB_false, ↓reduceIte, zA, zB, zC, zD, zE, zF, zG, zH, zI, reduceCtorEq]
    all_goals repeat' (first | (apply brB_mk <;> (intro hg; (try simp only [push_cast] at hg))) | (refine ⟨_, hFy, ?_⟩; simp only [push_cast, ↓brB_true, ↓brB_false, ↓reduceIte, zA, zB, zC, zD, zE, zF, zG, zH, zI, reduceCtorEq]) | apply And.intro | (intro hg; (try simp only [push_cast] at hg)))
    all_goals first | exact True.intro | exact rfl | contradiction | omega | with_reducible assumption | skip
    all_goals first | (refine hK9 _ _ ?_; clear hK9 K9) | (simp only [push_cast]; done)
    all_goals simp only [push_cast, ↓brB_true, ↓brB_false, ↓reduceIte, zA, zB, zC, zD, zE, zF, zG, zH, zI, reduceCtorEq]
    all_goals repeat' (first | (apply brB_mk <;> (intro hg; (try simp only [push_cast] at hg))) | (refine ⟨_, hCP, ?_⟩; simp only [push_cast, ↓brB_true, ↓brB_false, ↓reduceIte, zA, zB, zC, zD, zE, zF, zG, zH, zI, reduceCtorEq]) | (refine ⟨_, hFy, ?_⟩; simp only [push_cast, ↓brB_true, ↓brB_false, ↓reduceIte, zA, zB, zC, zD, zE, zF, zG, zH, zI, reduceCtorEq]) | apply And.intro | (intro hg; (try simp only [push_cast] at hg)))
    all_goals first | exact True.intro | exact rfl | contradiction | omega | with_reducible assumption | (refine hE _ _ ?_ ?_; kernel_rfl) | skip
    all_goals clear hE E
    all_goals first | (refine hK _ ?_; clear hK K) | (simp only [push_cast]; done)
    refine awp_seq' fun K2 hK2 => ?_
    refine awp_settleB [.sl 2, .sl 27, .sl 27] 8 ?_
    simp only [push_cast, ↓brB_true, ↓brB_false, ↓reduceIte, zA, zB, zC, zD, zE, zF, zG, zH, zI, reduceCtorEq]
    refine awp_seq' fun K hK => ?_
    refine awp_regionN false tyOk tyPos ?_ rfl ?_
    · kernel_rfl
    all_goals refine seqE_cut 9 fun K9 hK9 => ?_
    all_goals simp only [push_cast, ↓brB_true, ↓brB_false, ↓reduceIte, zA, zB, zC, zD, zE, zF, zG, zH, zI, reduceCtorEq]
    all_goals repeat' (first | (apply brB_mk <;> (intro hg; (try simp only [push_cast] at hg))) | (refine ⟨_, hWx, ?_⟩; simp only [push_cast, ↓brB_true, ↓brB_false, ↓reduceIte, zA, zB, zC, zD, zE, zF, zG, zH, zI, reduceCtorEq]) | (refine ⟨_, hWy, ?_⟩; simp only [push_cast, ↓brB_true, ↓brB_false, ↓reduceIte, zA, zB, zC, zD, zE, zF, zG, zH, zI, reduceCtorEq]) | apply And.intro | (intro hg; (try simp only [push_cast] at hg)))
    all_goals first | exact True.intro | exact rfl | contradiction | omega | with_reducible assumption | skip
    all_goals first | (refine hK9 _ ?_; clear hK9 K9) | (simp only [push_cast]; done)
    all_goals refine seqE_cut 5 fun K9 hK9 => ?_
    all_goals simp only [push_cast, ↓brB_true, ↓brB_false, ↓reduceIte, zA, zB, zC, zD, zE, zF, zG, zH, zI, reduceCtorEq]
    all_goals repeat' (first | (apply brB_mk <;> (intro hg; (try simp only [push_cast] at hg))) | (refine ⟨_, hWx, ?_⟩; simp only [push_cast, ↓brB_true, ↓brB_false, ↓reduceIte, zA, zB, zC, zD, zE, zF, zG, zH, zI, reduceCtorEq]) | (refine ⟨_, hWy, ?_⟩; simp only [push_cast, ↓brB_true, ↓brB_false, ↓reduceIte, zA, zB, zC, zD, zE, zF, zG, zH, zI, reduceCtorEq]) | apply And.intro | (intro hg; (try simp only [push_cast] at hg)))
    all_goals first | exact True.intro | exact rfl | contradiction | omega | with_reducible assumption | skip
    all_goals first | (refine hK9 _ ?_; clear hK9 K9) | (simp only [push_cast]; done)
    all_goals simp only [push_cast, ↓brB_true, ↓brB_false, ↓reduceIte, zA, zB, zC, zD, zE, zF, zG, zH, zI, reduceCtorEq]
    all_goals repeat' (first | (apply brB_mk <;> (intro hg; (try simp only [push_cast] at hg))) | (refine ⟨_, hWx, ?_⟩; simp only [push_cast, ↓brB_true, ↓brB_false, ↓reduceIte, zA, zB, zC, zD, zE, zF, zG, zH, zI, reduceCtorEq]) | (refine ⟨_, hWy, ?_⟩; simp only [push_cast, ↓brB_true, ↓brB_false, ↓reduceIte, zA, zB, zC, zD, zE, zF, zG, zH, zI, reduceCtorEq]) | apply And.intro | (intro hg; (try simp only [push_cast] at hg)))
    all_goals first | exact True.intro | exact rfl | contradiction | omega | with_reducible assumption | skip
    all_goals first | (refine hK _ ?_; clear hK K) | (simp only [push_cast]; done)
    refine awp_cond rfl (fun hc => ?_) (fun hc => ?_)
    skip
    · exfalso; first | (cases hc; done) | (simp only [push_cast] at hc; done) | (simp only [push_cast] at hc; omega) | omega
    refine awp_skip ?_
    (try simp only [AThen, ABlk, reduceIte, zF]); refine hK2 _ ?_
    refine awp_seq' fun K hK => ?_
    refine awp_region tyOk tyPos [] rfl ?_
    all_goals refine aops_cut 2 fun K9 hK9 => ?_
    all_goals simp only [push_cast, ↓brB_true, ↓brB_false, ↓reduceIte, zA, zB, zC, zD, zE, zF, zG, zH, zI, reduceCtorEq]
    all_goals repeat' (first | (apply brB_mk <;> (intro hg; (try simp only [push_cast] at hg))) | (refine ⟨_, hCx, ?_⟩; simp only [push_cast, ↓brB_true, ↓brB_false, ↓reduceIte, zA, zB, zC, zD, zE, zF, zG, zH, zI, reduceCtorEq]) | apply And.intro | (intro hg; (try simp only [push_cast] at hg)))
    all_goals first | exact True.intro | exact rfl | contradiction | omega | with_reducible assumption | skip
    all_goals first | (refine hK9 _ ?_; clear hK9 K9) | (simp only [push_cast]; done)
    all_goals simp only [push_cast, ↓brB_true, ↓brB_false, ↓reduceIte, zA, zB, zC, zD, zE, zF, zG, zH, zI, reduceCtorEq]
    all_goals repeat' (first | (apply brB_mk <;> (intro hg; (try simp only [push_cast] at hg))) | (refine ⟨_, hCx, ?_⟩; simp only [push_cast, ↓brB_true, ↓brB_false, ↓reduceIte, zA, zB, zC, zD, zE, zF, zG, zH, zI, reduceCtorEq]) | apply And.intro | (intro hg; (try simp only [push_cast] at hg)))
    all_goals first | exact True.intro | exact rfl | contradiction | omega | with_reducible assumption | skip
    all_goals first | (refine hK _ ?_; clear hK K) | (simp only [push_cast]; done)
    refine awp_seq' fun K hK => ?_
    refine awp_region tyOk tyPos [] rfl ?_
    all_goals refine aops_cut 2 fun K9 hK9 => ?_
    all_goals simp only [push_cast, ↓brB_true, ↓brB_false, ↓reduceIte, zA, zB, zC, zD, zE, zF, zG, zH, zI, reduceCtorEq]
    all_goals repeat' (first | (apply brB_mk <;> (intro hg; (try simp only [push_cast] at hg))) | (refine ⟨_, hCy, ?_⟩; simp only [push_cast, ↓brB_true, ↓brB_false, ↓reduceIte, zA, zB, zC, zD, zE, zF, zG, zH, zI, reduceCtorEq]) | apply And.intro | (intro hg; (try simp only [push_cast] at hg)))
    all_goals first | exact True.intro | exact rfl | contradiction | omega | with_reducible assumption | skip
    all_goals first | (refine hK9 _ ?_; clear hK9 K9) | (simp only [push_cast]; done)
    all_goals simp only [push_cast, ↓brB_true, ↓brB_false, ↓reduceIte, zA, zB, zC, zD, zE, zF, zG, zH, zI, reduceCtorEq]
    all_goals repeat' (first | (apply brB_mk <;> (intro hg; (try simp only [push_cast] at hg))) | (refine ⟨_, hCy, ?_⟩; simp only [push_cast, ↓brB_true, ↓brB_false, ↓reduceIte, zA, zB, zC, zD, zE, zF, zG, zH, zI, reduceCtorEq]) | apply And.intro | (intro hg; (try simp only [push_cast] at hg)))
    all_goals first | exact True.intro | exact rfl | contradiction | omega | with_reducible assumption | skip
    all_goals first | (refine hK _ ?_; clear hK K) | (simp only [push_cast]; done)
    refine awp_seq' fun K3 hK3 => ?_
    refine awp_seq' fun K hK => ?_
    refine awp_regionN false tyOk tyPos ?_ rfl ?_
    · kernel_rfl
    all_goals refine seqE_cut 9 fun K9 hK9 => ?_
    all_goals simp only [push_cast, ↓brB_true, ↓brB_false, ↓reduceIte, zA, zB, zC, zD, zE, zF, zG, zH, zI, reduceCtorEq]
    all_goals repeat' (first | (apply brB_mk <;> (intro hg; (try simp only [push_cast] at hg))) | (refine ⟨_, hLk, ?_⟩; simp only [push_cast, ↓brB_true, ↓brB_false, ↓reduceIte, zA, zB, zC, zD, zE, zF, zG, zH, zI, reduceCtorEq]) | apply And.intro | (intro hg; (try simp only [push_cast] at hg)))
    all_goals first | exact True.intro | exact rfl | contradiction | omega | with_reducible assumption | skip
    all_goals first | (refine hK9 _ ?_; clear hK9 K9) | (simp only [push_cast]; done)
    all_goals simp only [push_cast, ↓brB_true, ↓brB_false, ↓reduceIte, zA, zB, zC, zD, zE, zF, zG, zH, zI, reduceCtorEq]
    all_goals repeat' (first | (apply brB_mk <;> (intro hg; (try simp only [push_cast] at hg))) | (refine ⟨_, hLk, ?_⟩; simp only [push_cast, ↓brB_true, ↓brB_false, ↓reduceIte, zA, zB, zC, zD, zE, zF, zG, zH, zI, reduceCtorEq]) | apply And.intro | (intro hg; (try simp only [push_cast] at hg)))
    all_goals first | exact True.intro | exact rfl | contradiction | omega | with_reducible assumption | skip
    all_goals first | (refine hK _ ?_; clear hK K) | (simp only [push_cast]; done)
    refine awp_cond rfl (fun hc => ?_) (fun hc => ?_)
    skip
    · exfalso; first | (cases hc; done) | (simp only [push_cast] at hc; done) | (simp only [push_cast] at hc; omega) | omega
    refine awp_skip ?_
    (try simp only [AThen, ABlk, reduceIte, zF]); refine hK3 _ ?_
    refine awp_seq' fun K4 hK4 => ?_
    refine awp_seq' fun K hK => ?_
    refine awp_region tyOk tyPos [] rfl ?_
    simp only [push_cast, ↓brB_true, ↓brB_false, ↓reduceIte, zA, zB, zC, zD, zE, zF, zG, zH, zI, reduceCtorEq]
    repeat' apply And.intro
    all_goals first | exact True.intro | exact rfl | omega | with_reducible assumption | (simp only [List.length_set, List.length_append, List.length_replicate, List.length_cons, List.length_nil]; omega) | skip
    all_goals first | (refine hK _ ?_; clear hK K) | (simp only [push_cast]; done)
    refine awp_block ?_
    refine awp_loopU [2,4,6,8,12,16,39,43,48,62,68,69,70,71,72,73,74,75,76,77,78,79,80,81,82,83,84,85,86,87,88,89,90,91,92,93,94,95,96] [] (fun (v : Nat) => [(12, .int .i64 v), (10, .sl 160 [] 0 more.length 2), (5, .sl 80 [] 0 cr.length 2)]) (fun v => []) (fun v => [(160, ⟨.ex, 2, dI more, none⟩), (80, ⟨.ex, 2, dI cr, none⟩)]) (fun v => v ≤ cr.length) (fun v => cr.length - v) 0 ?_ (by omega) ?_
    ·
      refine cov_of rfl ?_ ?_ ?_ <;> simp only [covS, covL, push_cast, ↓brB_true, ↓brB_false, ↓reduceIte, zA, zB, zC, zD, zE, zF, zG, zH, zI, reduceCtorEq]
    · rintro v hv KL0 hL0
      have hml := hmore.1
      simp only [push_cast, ↓brB_true, ↓brB_false, ↓reduceIte, zA, zB, zC, zD, zE, zF, zG, zH, zI, reduceCtorEq]
      refine awp_seq' fun K5 hK5 => ?_
      refine awp_seq' fun K hK => ?_
      refine awp_region tyOk tyPos [] rfl ?_
      simp only [push_cast, ↓brB_true, ↓brB_false, ↓reduceIte, zA, zB, zC, zD, zE, zF, zG, zH, zI, reduceCtorEq]
      repeat' apply And.intro
      all_goals first | exact True.intro | exact rfl | omega | with_reducible assumption | (simp only [List.length_set, List.length_append, List.length_replicate, List.length_cons, List.length_nil]; omega) | skip
      all_goals first | (refine hK _ ?_; clear hK K) | (simp only [push_cast]; done)
      refine awp_cond rfl (fun hc => ?_) (fun hc => ?_) <;> (try simp only [push_cast] at hc)
      ·
        refine awp_skip ?_
        (try simp only [AThen, ABlk, reduceIte, zF]); refine hK5 _ ?_
        refine awp_seq' fun K6 hK6 => ?_
        refine awp_block ?_
        have hmv := hmore.2 v (by omega)
        refine awp_seq' fun K hK => ?_
        refine awp_regionD1 false tyOk tyPos tyMix ?_ rfl ?_
        · kernel_rfl
        intro E hE
        all_goals simp only [push_cast, ↓brB_true, ↓brB_false, ↓reduceIte, zA, zB, zC, zD, zE, zF, zG, zH, zI, reduceCtorEq]
        all_goals repeat' (first | (apply brB_mk <;> (intro hg; (try simp only [push_cast] at hg))) | apply And.intro | (intro hg; (try simp only [push_cast] at hg)))
        all_goals first | exact True.intro | exact rfl | contradiction | omega | with_reducible assumption | (refine hE _ _ ?_ ?_; kernel_rfl) | skip
        all_goals clear hE E
        all_goals first | (refine hK _ ?_; clear hK K) | (simp only [push_cast]; done)
        all_goals (
            refine awp_cond rfl (fun hc => ?_) (fun hc => ?_)
            skip
            · exfalso; first | (cases hc; done) | (simp only [push_cast] at hc; done) | (simp only [push_cast] at hc; omega) | omega
            refine awp_skip ?_
            (try simp only [AThen, ABlk, reduceIte, zF]); refine hK6 _ ?_
            refine awp_region tyOk tyPos [] rfl ?_
            simp only [push_cast, ↓brB_true, ↓brB_false, ↓reduceIte, zA, zB, zC, zD, zE, zF, zG, zH, zI, reduceCtorEq]
            repeat' apply And.intro
            all_goals first | exact True.intro | exact rfl | omega | with_reducible assumption | (simp only [List.length_set, List.length_append, List.length_replicate, List.length_cons, List.length_nil]; omega) | skip
            refine hL0 _ ⟨v + 1, by omega, by omega, ?_⟩
            refine cov_of rfl ?_ ?_ ?_ <;> simp only [covS, covL, push_cast, ↓brB_true, ↓brB_false, ↓reduceIte, zA, zB, zC, zD, zE, zF, zG, zH, zI, reduceCtorEq])
      ·
        refine awp_exit ?_
        have hvv : v = cr.length := by omega
        subst hvv
        (try simp only [AThen, ABlk, reduceIte, zF]); refine hK4 _ ?_
        refine awp_seq' fun K hK => ?_
        refine awp_region tyOk tyPos [] rfl ?_
        simp only [push_cast, ↓brB_true, ↓brB_false, ↓reduceIte, zA, zB, zC, zD, zE, zF, zG, zH, zI, reduceCtorEq]
        repeat' apply And.intro
        all_goals first | exact True.intro | exact rfl | omega | with_reducible assumption | (simp only [List.length_set, List.length_append, List.length_replicate, List.length_cons, List.length_nil]; omega) | skip
        all_goals first | (refine hK _ ?_; clear hK K) | (simp only [push_cast]; done)
        refine awp_ret ?_
        (try simp only [AThen, ABlk])
        refine ⟨Or.inl rfl, ?_⟩
        simp only [RetOk, push_cast, ↓brB_true, ↓brB_false, ↓reduceIte, zA, zB, zC, zD, zE, zF, zG, zH, zI, reduceCtorEq]
set_option maxRecDepth 100000 in
theorem CreditLeast_lifted (os : Os) (started : os.Started) (H : Type) (enc : TypeId × Value → H) :
    ReturnsInHanded {} Try.checked os 3 .any (Rows.fnCreditLeastSpec.pre6 enc Try.prog Try.f3 Rows.fnCreditLeastRow.domain false) (Rows.fnCreditLeastSpec.post enc Try.prog Try.f3 false true false false) := by
  refine returnsInHanded_of_change (C := Try.checked) own_law started (by kernel_rfl) Try.func3
    (ChangeSpec.witness6 (enc := enc) (C := Try.checked) false ⟨#[], #[.slice none 0 0], []⟩ 8 (by kernel_rfl) (by kernel_rfl) (by kernel_rfl) (by kernel_rfl)) ?_
  intro W base args ds gs before hval0 hW hcnd _
  have hval : ∀ (j : Nat) t v, Try.f3.params[j]? = some t → args[j]? = some v → Value.okWide Try.prog W .any base t v := hval0
  have hW0 := hW
  obtain ⟨p, q, hA0, hV, rfl, hfz, hnd⟩ := hW
  have hA : DataW.TrodAll enc Try.prog W 0 (fun _ => true) true Try.f3.params.toList args.toList ds p := hA0
  obtain ⟨rfl, rfl⟩ := trodVars_none hV
  have hlt : ∀ x ∈ p, x.block < W.heap.size := fun x hx => hW0.lt x (by simp [hx])
  rw [Try.params3] at hA hval
  clear hA0 hval0 hV
  obtain ⟨v0, vs0, d0, ds0, p0, q0, hargs, rfl, rfl, h0, r0⟩ := trodAll_cons hA
  obtain ⟨rfl, rfl, rfl⟩ := trodAll_nil r0
  obtain rfl : args = #[v0] := by cases args; simp_all
  obtain ⟨a0, w0, g0, m0⟩ := arg_U (lo := W.heap.size) (hval 0 _ v0 rfl rfl) h0
  have hL := law a0 m0 g0
  refine (law_true (cargs := [v0]) hL (by simp only [ArgsR]; exact ⟨v0, _, rfl, w0, rfl⟩)).mono fun e W' he => ?_
  obtain ⟨rfl, hb⟩ := he
  exact ⟨_, rfl, law_post lay_law (by rw [Try.params3]; decide +kernel) (by kernel_rfl) Try.underlying4 rfl hW0 rfl rfl rfl hb (fun W' => okWide_bool_mk Try.underlying4 true)⟩

theorem CreditLeast_over : Rows.fnCreditLeastRow.holds Try.pinned (OpenSpec.ofChange Rows.fnCreditLeastSpec) :=
  OpenClaim.holds_of_wide 3 Try.f3 rfl rfl rfl rfl rfl rfl rfl ⟨rfl, rfl, rfl, rfl, rfl⟩ rfl rfl rfl rfl rfl (by kernel_rfl) Try.func3 (by kernel_rfl)
    (of_decide_eq_true (by kernel_rfl)) (by unfold Func.isWrapper; first | (rw [if_pos (by decide +kernel)]; kernel_rfl) | (rw [if_neg (by decide +kernel)]; exact ⟨rfl, rfl⟩))
    (fun os started H enc _ => CreditLeast_lifted os started H enc)

/-- The given statement on CreditLeast. -/
theorem CreditLeast_holds : Rows.FnCreditLeastSaid := CreditLeast_over
end lawFnCreditLeast
end Go.Proofs.Ytdbecmmeifdafaa
