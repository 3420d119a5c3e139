/- the winners in the bridge: both sides -/
import Derived.Test.YtaekncnlhkammaaGP
import Derived.Test.YtaekncnlhkammaaGK
namespace Go.Proofs.Ytaekncnlhkammaa
open Go.RowKit
set_option linter.unusedVariables false
set_option linter.unusedSimpArgs false

theorem bcredit_ex (g : Pa) : ∃ c, bridgeB g = true → Least (bridgeW g) (boundW (bridgeW g)) c := by
  by_cases h : bridgeB g = true
  · obtain ⟨c, hc⟩ := least_ex (wsh_of (bridge_weighted h)) (wsh_of (bridge_weighted h)).bound.1
    exact ⟨c, fun _ => hc⟩
  · exact ⟨[], fun h' => absurd h' h⟩
def flagN (x : Int) : Int := if x < 0 then 1 else 0
def bwon (g : Pa) (c : List Int) : List Int := if bridgeB g then (c.map (decB (boundW (bridgeW g)))).map flagN else []
theorem bwon_no {g : Pa} {c : List Int} (h : bridgeB g = false) : bwon g c = [] := by unfold bwon; rw [h]; rfl
theorem bwon_yes {g : Pa} {c : List Int} (h : bridgeB g = true) : bwon g c = (c.map (decB (boundW (bridgeW g)))).map flagN := by unfold bwon; rw [h]; rfl
theorem bwon_len {g : Pa} {c : List Int} (hL : bridgeB g = true → Least (bridgeW g) (boundW (bridgeW g)) c) : LnI 1048576 (bwon g c) := by
  unfold bwon LnI
  split
  · rename_i e
    rw [List.length_map, List.length_map, (hL e).len]
    have := (wsh_of (bridge_weighted e)).n2
    omega
  · simp
theorem take_flag {s : List Int} {k : Nat} (h : k < s.length) : (s.take (k + 1)).map flagN = (s.take k).map flagN ++ [flagN (gi s k)] := by
  rw [take_snocI h, List.map_append]
  rfl
set_option maxRecDepth 20000 in
set_option maxHeartbeats 4000000 in
theorem l1Flag_fn (b : Bool) : Fn Try.prog tyT 81 [.c (.bool b)] [.c (.int .i64 (if b then 1 else 0))] := by
  refine Fn_of (fn := Try.f81) (ts := [2]) Try.func81 (by kernel_rfl) rfl rfl (by rw [Try.ntmps81]; exact Nat.le_of_ble_eq_true rfl) rfl (by simp only [szA, List.mem_cons, List.not_mem_nil, or_false, forall_eq_or_imp, forall_eq, VT.cells, szL]; try decide) ?_
  rw [Try.ntmps81]
  simp only [push_cast, ↓brB_true, ↓brB_false, ↓reduceIte, Nat.reduceMod, Nat.reduceMul, Nat.reduceDiv, Nat.reduceAdd, Nat.reduceSub, Nat.reduceEqDiff, Nat.reduceBEq, Nat.reduceLT, Nat.reduceLeDiff, reduceCtorEq]
  refine awp_seq' fun K hK => ?_
  refine awp_region tyOk tyPos [] rfl ?_
  simp only [push_cast, ↓brB_true, ↓brB_false, ↓reduceIte, Nat.reduceMod, Nat.reduceMul, Nat.reduceDiv, Nat.reduceAdd, Nat.reduceSub, Nat.reduceEqDiff, Nat.reduceBEq, Nat.reduceLT, Nat.reduceLeDiff, reduceCtorEq]
  repeat' apply And.intro
  all_goals first | exact True.intro | exact rfl | omega | with_reducible assumption | (simp only [List.length_set, List.length_append, List.length_replicate, List.length_cons, List.length_nil]; omega) | skip
  all_goals first | (refine hK _ ?_; clear hK K) | (simp only [push_cast]; done)
  refine awp_seq' fun K1 hK1 => ?_
  refine awp_seq' fun K hK => ?_
  refine awp_region tyOk tyPos [] rfl ?_
  simp only [push_cast, ↓brB_true, ↓brB_false, ↓reduceIte, Nat.reduceMod, Nat.reduceMul, Nat.reduceDiv, Nat.reduceAdd, Nat.reduceSub, Nat.reduceEqDiff, Nat.reduceBEq, Nat.reduceLT, Nat.reduceLeDiff, reduceCtorEq]
  repeat' apply And.intro
  all_goals first | exact True.intro | exact rfl | omega | with_reducible assumption | (simp only [List.length_set, List.length_append, List.length_replicate, List.length_cons, List.length_nil]; omega) | skip
  all_goals first | (refine hK _ ?_; clear hK K) | (simp only [push_cast]; done)
  refine awp_cond rfl (fun hc => ?_) (fun hc => ?_) <;> (try simp only [push_cast] at hc)
  ·
    refine awp_seq' fun K hK => ?_
    refine awp_region tyOk tyPos [] rfl ?_
    simp only [push_cast, ↓brB_true, ↓brB_false, ↓reduceIte, Nat.reduceMod, Nat.reduceMul, Nat.reduceDiv, Nat.reduceAdd, Nat.reduceSub, Nat.reduceEqDiff, Nat.reduceBEq, Nat.reduceLT, Nat.reduceLeDiff, reduceCtorEq]
    repeat' apply And.intro
    all_goals first | exact True.intro | exact rfl | omega | with_reducible assumption | (simp only [List.length_set, List.length_append, List.length_replicate, List.length_cons, List.length_nil]; omega) | skip
    all_goals first | (refine hK _ ?_; clear hK K) | (simp only [push_cast]; done)
    refine awp_ret ?_
    (try simp only [AThen, ABlk])
    refine ⟨Or.inl rfl, ?_⟩
    simp only [RetOk, push_cast, ↓brB_true, ↓brB_false, ↓reduceIte, Nat.reduceMod, Nat.reduceMul, Nat.reduceDiv, Nat.reduceAdd, Nat.reduceSub, Nat.reduceEqDiff, Nat.reduceBEq, Nat.reduceLT, Nat.reduceLeDiff, reduceCtorEq]
    rw [show b = true from by with_reducible assumption]; rfl
  ·
    refine awp_skip ?_
    (try simp only [AThen, ABlk, reduceIte, Nat.reduceEqDiff]); refine hK1 _ ?_
    refine awp_seq' fun K hK => ?_
    refine awp_region tyOk tyPos [] rfl ?_
    simp only [push_cast, ↓brB_true, ↓brB_false, ↓reduceIte, Nat.reduceMod, Nat.reduceMul, Nat.reduceDiv, Nat.reduceAdd, Nat.reduceSub, Nat.reduceEqDiff, Nat.reduceBEq, Nat.reduceLT, Nat.reduceLeDiff, reduceCtorEq]
    repeat' apply And.intro
    all_goals first | exact True.intro | exact rfl | omega | with_reducible assumption | (simp only [List.length_set, List.length_append, List.length_replicate, List.length_cons, List.length_nil]; omega) | skip
    all_goals first | (refine hK _ ?_; clear hK K) | (simp only [push_cast]; done)
    refine awp_ret ?_
    (try simp only [AThen, ABlk])
    refine ⟨Or.inl rfl, ?_⟩
    simp only [RetOk, push_cast, ↓brB_true, ↓brB_false, ↓reduceIte, Nat.reduceMod, Nat.reduceMul, Nat.reduceDiv, Nat.reduceAdd, Nat.reduceSub, Nat.reduceEqDiff, Nat.reduceBEq, Nat.reduceLT, Nat.reduceLeDiff, reduceCtorEq]
    rw [show b = false from by with_reducible assumption]; rfl
set_option maxRecDepth 20000 in
set_option maxHeartbeats 4000000 in
theorem BridgeWonI_fn (g : Pa) (hg : g.Ln 1048576) (c : List Int) (hL : bridgeB g = true → Least (bridgeW g) (boundW (bridgeW g)) c) : Fn Try.prog tyT 27 [.agg (dPa g)] [.c (DI (bwon g c))] := by
  have hB := BridgeOfI_fn g hg
  have hP := fun h => creditOfI_fn (bridgeW g) (bridgeW_len hg) (wsh_of (bridge_weighted h)) _ rfl c (hL h)
  unfold dPa dWt at hB
  unfold dWt at hP
  unfold dPa
  refine Fn_of (fn := Try.f27) (ts := [2]) Try.func27 (by kernel_rfl) rfl rfl (by rw [Try.ntmps27]; exact Nat.le_of_ble_eq_true rfl) rfl (by simp only [szA, List.mem_cons, List.not_mem_nil, or_false, forall_eq_or_imp, forall_eq, VT.cells, szL]; try decide) ?_
  rw [Try.ntmps27]
  simp only [push_cast, ↓brB_true, ↓brB_false, ↓reduceIte, Nat.reduceMod, Nat.reduceMul, Nat.reduceDiv, Nat.reduceAdd, Nat.reduceSub, Nat.reduceEqDiff, Nat.reduceBEq, Nat.reduceLT, Nat.reduceLeDiff, reduceCtorEq]
  refine awp_seq' fun K hK => ?_
  refine awp_region tyOk tyPos [] rfl ?_
  simp only [push_cast, ↓brB_true, ↓brB_false, ↓reduceIte, Nat.reduceMod, Nat.reduceMul, Nat.reduceDiv, Nat.reduceAdd, Nat.reduceSub, Nat.reduceEqDiff, Nat.reduceBEq, Nat.reduceLT, Nat.reduceLeDiff, reduceCtorEq]
  repeat' apply And.intro
  all_goals first | exact True.intro | exact rfl | omega | with_reducible assumption | (simp only [List.length_set, List.length_append, List.length_replicate, List.length_cons, List.length_nil]; omega) | skip
  all_goals first | (refine hK _ ?_; clear hK K) | (simp only [push_cast]; done)
  refine awp_seq' fun K hK => ?_
  refine awp_region tyOk tyPos [] rfl ?_
  all_goals refine aops_cut 2 fun K9 hK9 => ?_
  all_goals simp only [push_cast, ↓brB_true, ↓brB_false, ↓reduceIte, Nat.reduceMod, Nat.reduceMul, Nat.reduceDiv, Nat.reduceAdd, Nat.reduceSub, Nat.reduceEqDiff, Nat.reduceBEq, Nat.reduceLT, Nat.reduceLeDiff, reduceCtorEq]
  all_goals repeat' (first | (apply brB_mk <;> (intro hg; (try simp only [push_cast] at hg))) | (refine ⟨_, hB, ?_⟩; simp only [push_cast, ↓brB_true, ↓brB_false, ↓reduceIte, Nat.reduceMod, Nat.reduceMul, Nat.reduceDiv, Nat.reduceAdd, Nat.reduceSub, Nat.reduceEqDiff, Nat.reduceBEq, Nat.reduceLT, Nat.reduceLeDiff, reduceCtorEq]) | apply And.intro | (intro hg; (try simp only [push_cast] at hg)))
  all_goals first | exact True.intro | exact rfl | contradiction | omega | with_reducible assumption | skip
  all_goals first | (refine hK9 _ ?_; clear hK9 K9) | (simp only [push_cast]; done)
  all_goals simp only [push_cast, ↓brB_true, ↓brB_false, ↓reduceIte, Nat.reduceMod, Nat.reduceMul, Nat.reduceDiv, Nat.reduceAdd, Nat.reduceSub, Nat.reduceEqDiff, Nat.reduceBEq, Nat.reduceLT, Nat.reduceLeDiff, reduceCtorEq]
  all_goals repeat' (first | (apply brB_mk <;> (intro hg; (try simp only [push_cast] at hg))) | (refine ⟨_, hB, ?_⟩; simp only [push_cast, ↓brB_true, ↓brB_false, ↓reduceIte, Nat.reduceMod, Nat.reduceMul, Nat.reduceDiv, Nat.reduceAdd, Nat.reduceSub, Nat.reduceEqDiff, Nat.reduceBEq, Nat.reduceLT, Nat.reduceLeDiff, reduceCtorEq]) | apply And.intro | (intro hg; (try simp only [push_cast] at hg)))
  all_goals first | exact True.intro | exact rfl | contradiction | omega | with_reducible assumption | skip
  all_goals first | (refine hK _ ?_; clear hK K) | (simp only [push_cast]; done)
  refine awp_seq' fun K1 hK1 => ?_
  refine awp_seq' fun K hK => ?_
  refine awp_region tyOk tyPos [] rfl ?_
  simp only [push_cast, ↓brB_true, ↓brB_false, ↓reduceIte, Nat.reduceMod, Nat.reduceMul, Nat.reduceDiv, Nat.reduceAdd, Nat.reduceSub, Nat.reduceEqDiff, Nat.reduceBEq, Nat.reduceLT, Nat.reduceLeDiff, reduceCtorEq]
  repeat' apply And.intro
  all_goals first | exact True.intro | exact rfl | omega | with_reducible assumption | (simp only [List.length_set, List.length_append, List.length_replicate, List.length_cons, List.length_nil]; omega) | skip
  all_goals first | (refine hK _ ?_; clear hK K) | (simp only [push_cast]; done)
  refine awp_cond rfl (fun hc => ?_) (fun hc => ?_) <;> (try simp only [push_cast] at hc)
  ·
    refine awp_seq' fun K hK => ?_
    refine awp_region tyOk tyPos [] rfl ?_
    simp only [push_cast, ↓brB_true, ↓brB_false, ↓reduceIte, Nat.reduceMod, Nat.reduceMul, Nat.reduceDiv, Nat.reduceAdd, Nat.reduceSub, Nat.reduceEqDiff, Nat.reduceBEq, Nat.reduceLT, Nat.reduceLeDiff, reduceCtorEq]
    repeat' apply And.intro
    all_goals first | exact True.intro | exact rfl | omega | with_reducible assumption | (simp only [List.length_set, List.length_append, List.length_replicate, List.length_cons, List.length_nil]; omega) | skip
    all_goals first | (refine hK _ ?_; clear hK K) | (simp only [push_cast]; done)
    refine awp_ret ?_
    (try simp only [AThen, ABlk])
    refine ⟨Or.inl rfl, ?_⟩
    simp only [RetOk, push_cast, ↓brB_true, ↓brB_false, ↓reduceIte, Nat.reduceMod, Nat.reduceMul, Nat.reduceDiv, Nat.reduceAdd, Nat.reduceSub, Nat.reduceEqDiff, Nat.reduceBEq, Nat.reduceLT, Nat.reduceLeDiff, reduceCtorEq]
    rw [bwon_no (by with_reducible assumption)]
    all_goals first | rfl | exact ⟨rfl, rfl⟩
  ·
    refine awp_skip ?_
    (try simp only [AThen, ABlk, reduceIte, Nat.reduceEqDiff]); refine hK1 _ ?_
    refine awp_seq' fun K hK => ?_
    refine awp_region tyOk tyPos [] rfl ?_
    simp only [push_cast, ↓brB_true, ↓brB_false, ↓reduceIte, Nat.reduceMod, Nat.reduceMul, Nat.reduceDiv, Nat.reduceAdd, Nat.reduceSub, Nat.reduceEqDiff, Nat.reduceBEq, Nat.reduceLT, Nat.reduceLeDiff, reduceCtorEq]
    repeat' apply And.intro
    all_goals first | exact True.intro | exact rfl | omega | with_reducible assumption | (simp only [List.length_set, List.length_append, List.length_replicate, List.length_cons, List.length_nil]; omega) | skip
    all_goals first | (refine hK _ ?_; clear hK K) | (simp only [push_cast]; done)
    refine awp_seq' fun K2 hK2 => ?_
    have hb : bridgeB g = true := by with_reducible assumption
    have h8 := hP hb
    have hsl : (c.map (decB (boundW (bridgeW g)))).length ≤ 24 := by rw [List.length_map, (hL hb).len]; exact (wsh_of (bridge_weighted hb)).n2
    generalize hse : c.map (decB (boundW (bridgeW g))) = s at h8 hsl
    refine awp_seq' fun K hK => ?_
    refine awp_region tyOk tyPos [] rfl ?_
    all_goals refine aops_cut 2 fun K9 hK9 => ?_
    all_goals simp only [push_cast, ↓brB_true, ↓brB_false, ↓reduceIte, Nat.reduceMod, Nat.reduceMul, Nat.reduceDiv, Nat.reduceAdd, Nat.reduceSub, Nat.reduceEqDiff, Nat.reduceBEq, Nat.reduceLT, Nat.reduceLeDiff, reduceCtorEq]
    all_goals repeat' (first | (apply brB_mk <;> (intro hg; (try simp only [push_cast] at hg))) | (refine ⟨_, h8, ?_⟩; simp only [push_cast, ↓brB_true, ↓brB_false, ↓reduceIte, Nat.reduceMod, Nat.reduceMul, Nat.reduceDiv, Nat.reduceAdd, Nat.reduceSub, Nat.reduceEqDiff, Nat.reduceBEq, Nat.reduceLT, Nat.reduceLeDiff, reduceCtorEq]) | apply And.intro | (intro hg; (try simp only [push_cast] at hg)))
    all_goals first | exact True.intro | exact rfl | contradiction | omega | with_reducible assumption | skip
    all_goals first | (refine hK9 _ ?_; clear hK9 K9) | (simp only [push_cast]; done)
    all_goals simp only [push_cast, ↓brB_true, ↓brB_false, ↓reduceIte, Nat.reduceMod, Nat.reduceMul, Nat.reduceDiv, Nat.reduceAdd, Nat.reduceSub, Nat.reduceEqDiff, Nat.reduceBEq, Nat.reduceLT, Nat.reduceLeDiff, reduceCtorEq]
    all_goals repeat' (first | (apply brB_mk <;> (intro hg; (try simp only [push_cast] at hg))) | (refine ⟨_, h8, ?_⟩; simp only [push_cast, ↓brB_true, ↓brB_false, ↓reduceIte, Nat.reduceMod, Nat.reduceMul, Nat.reduceDiv, Nat.reduceAdd, Nat.reduceSub, Nat.reduceEqDiff, Nat.reduceBEq, Nat.reduceLT, Nat.reduceLeDiff, reduceCtorEq]) | apply And.intro | (intro hg; (try simp only [push_cast] at hg)))
    all_goals first | exact True.intro | exact rfl | contradiction | omega | with_reducible assumption | skip
    all_goals first | (refine hK _ ?_; clear hK K) | (simp only [push_cast]; done)
    refine awp_block ?_
    refine awp_loopU [3,5,7,19,20,21,22,23,24,25,26,27,28,29,30,31] [80] (fun (k : Nat) => [(19, .int .i64 k), (5, .sl 80 [] 0 k 2)]) (fun k => []) (fun k => [(80, ⟨.ex, 2, dI ((s.take k).map flagN), none⟩)]) (fun k => k ≤ s.length) (fun k => s.length - k) 0 ?_ (by omega) ?_
    ·
      rw [show dI ((s.take 0).map flagN) = [] from rfl]
      refine cov_of rfl ?_ ?_ ?_ <;> simp only [covS, covL, push_cast, ↓brB_true, ↓brB_false, ↓reduceIte, Nat.reduceMod, Nat.reduceMul, Nat.reduceDiv, Nat.reduceAdd, Nat.reduceSub, Nat.reduceEqDiff, Nat.reduceBEq, Nat.reduceLT, Nat.reduceLeDiff, reduceCtorEq]
    · rintro k hk KL0 hL0
      have hfl : ((s.take k).map flagN).length = k := by rw [List.length_map, List.length_take]; omega
      have hfn : flagN (gi s k) = if gi s k < 0 then 1 else 0 := rfl
      simp only [push_cast, ↓brB_true, ↓brB_false, ↓reduceIte, Nat.reduceMod, Nat.reduceMul, Nat.reduceDiv, Nat.reduceAdd, Nat.reduceSub, Nat.reduceEqDiff, Nat.reduceBEq, Nat.reduceLT, Nat.reduceLeDiff, reduceCtorEq]
      refine awp_seq' fun K hK => ?_
      refine awp_region tyOk tyPos [] rfl ?_
      simp only [push_cast, ↓brB_true, ↓brB_false, ↓reduceIte, Nat.reduceMod, Nat.reduceMul, Nat.reduceDiv, Nat.reduceAdd, Nat.reduceSub, Nat.reduceEqDiff, Nat.reduceBEq, Nat.reduceLT, Nat.reduceLeDiff, reduceCtorEq]
      repeat' apply And.intro
      all_goals first | exact True.intro | exact rfl | omega | with_reducible assumption | (simp only [List.length_set, List.length_append, List.length_replicate, List.length_cons, List.length_nil]; omega) | skip
      all_goals first | (refine hK _ ?_; clear hK K) | (simp only [push_cast]; done)
      refine awp_seq' fun K3 hK3 => ?_
      refine awp_cond rfl (fun hc => ?_) (fun hc => ?_) <;> (try simp only [push_cast] at hc)
      ·
        refine awp_skip ?_
        (try simp only [AThen, ABlk, reduceIte, Nat.reduceEqDiff]); refine hK3 _ ?_
        refine awp_seq' fun K4 hK4 => ?_
        refine awp_block ?_
        refine awp_seq' fun K hK => ?_
        refine awp_region tyOk tyPos [] rfl ?_
        simp only [push_cast, ↓brB_true, ↓brB_false, ↓reduceIte, Nat.reduceMod, Nat.reduceMul, Nat.reduceDiv, Nat.reduceAdd, Nat.reduceSub, Nat.reduceEqDiff, Nat.reduceBEq, Nat.reduceLT, Nat.reduceLeDiff, reduceCtorEq]
        repeat' apply And.intro
        all_goals first | exact True.intro | exact rfl | omega | with_reducible assumption | (simp only [List.length_set, List.length_append, List.length_replicate, List.length_cons, List.length_nil]; omega) | skip
        all_goals first | (refine hK _ ?_; clear hK K) | (simp only [push_cast]; done)
        refine awp_seq' fun K hK => ?_
        refine awp_region tyOk tyPos [] rfl ?_
        simp only [push_cast, ↓brB_true, ↓brB_false, ↓reduceIte, Nat.reduceMod, Nat.reduceMul, Nat.reduceDiv, Nat.reduceAdd, Nat.reduceSub, Nat.reduceEqDiff, Nat.reduceBEq, Nat.reduceLT, Nat.reduceLeDiff, reduceCtorEq]
        repeat' apply And.intro
        all_goals first | exact True.intro | exact rfl | omega | with_reducible assumption | (simp only [List.length_set, List.length_append, List.length_replicate, List.length_cons, List.length_nil]; omega) | skip
        all_goals first | (refine hK _ ?_; clear hK K) | (simp only [push_cast]; done)
        refine awp_cond rfl (fun hc => ?_) (fun hc => ?_) <;> (try simp only [push_cast] at hc)
        ·
          refine awp_region tyOk tyPos [] rfl ?_
          simp only [push_cast, ↓brB_true, ↓brB_false, ↓reduceIte, Nat.reduceMod, Nat.reduceMul, Nat.reduceDiv, Nat.reduceAdd, Nat.reduceSub, Nat.reduceEqDiff, Nat.reduceBEq, Nat.reduceLT, Nat.reduceLeDiff, reduceCtorEq]
          repeat' apply And.intro
          all_goals first | exact True.intro | exact rfl | omega | with_reducible assumption | (simp only [List.length_set, List.length_append, List.length_replicate, List.length_cons, List.length_nil]; omega) | skip
          (try simp only [AThen, ABlk, reduceIte, Nat.reduceEqDiff]); refine hK4 _ ?_
          refine awp_region tyOk tyPos [] rfl ?_
          simp only [push_cast, ↓brB_true, ↓brB_false, ↓reduceIte, Nat.reduceMod, Nat.reduceMul, Nat.reduceDiv, Nat.reduceAdd, Nat.reduceSub, Nat.reduceEqDiff, Nat.reduceBEq, Nat.reduceLT, Nat.reduceLeDiff, reduceCtorEq]
          repeat' apply And.intro
          all_goals first | exact True.intro | exact rfl | omega | with_reducible assumption | (simp only [List.length_set, List.length_append, List.length_replicate, List.length_cons, List.length_nil]; omega) | skip
          refine hL0 _ ⟨k + 1, by omega, by omega, ?_⟩
          (try rw [List.take_of_length_le (l := (s.take k).map flagN) (by omega)])
          rw [take_flag (by omega), hfn, if_neg (by omega)]
          refine cov_of rfl ?_ ?_ ?_ <;> simp only [covS, covL, push_cast, ↓brB_true, ↓brB_false, ↓reduceIte, Nat.reduceMod, Nat.reduceMul, Nat.reduceDiv, Nat.reduceAdd, Nat.reduceSub, Nat.reduceEqDiff, Nat.reduceBEq, Nat.reduceLT, Nat.reduceLeDiff, reduceCtorEq]
        ·
          refine awp_region tyOk tyPos [] rfl ?_
          simp only [push_cast, ↓brB_true, ↓brB_false, ↓reduceIte, Nat.reduceMod, Nat.reduceMul, Nat.reduceDiv, Nat.reduceAdd, Nat.reduceSub, Nat.reduceEqDiff, Nat.reduceBEq, Nat.reduceLT, Nat.reduceLeDiff, reduceCtorEq]
          repeat' apply And.intro
          all_goals first | exact True.intro | exact rfl | omega | with_reducible assumption | (simp only [List.length_set, List.length_append, List.length_replicate, List.length_cons, List.length_nil]; omega) | skip
          (try simp only [AThen, ABlk, reduceIte, Nat.reduceEqDiff]); refine hK4 _ ?_
          refine awp_region tyOk tyPos [] rfl ?_
          simp only [push_cast, ↓brB_true, ↓brB_false, ↓reduceIte, Nat.reduceMod, Nat.reduceMul, Nat.reduceDiv, Nat.reduceAdd, Nat.reduceSub, Nat.reduceEqDiff, Nat.reduceBEq, Nat.reduceLT, Nat.reduceLeDiff, reduceCtorEq]
          repeat' apply And.intro
          all_goals first | exact True.intro | exact rfl | omega | with_reducible assumption | (simp only [List.length_set, List.length_append, List.length_replicate, List.length_cons, List.length_nil]; omega) | skip
          refine hL0 _ ⟨k + 1, by omega, by omega, ?_⟩
          (try rw [List.take_of_length_le (l := (s.take k).map flagN) (by omega)])
          rw [take_flag (by omega), hfn, if_pos (by omega)]
          refine cov_of rfl ?_ ?_ ?_ <;> simp only [covS, covL, push_cast, ↓brB_true, ↓brB_false, ↓reduceIte, Nat.reduceMod, Nat.reduceMul, Nat.reduceDiv, Nat.reduceAdd, Nat.reduceSub, Nat.reduceEqDiff, Nat.reduceBEq, Nat.reduceLT, Nat.reduceLeDiff, reduceCtorEq]
      ·
        refine awp_exit ?_
        have hkk : k = s.length := by omega
        subst hkk
        rw [List.take_length]
        (try simp only [AThen, ABlk, reduceIte, Nat.reduceEqDiff]); refine hK2 _ ?_
        refine awp_seq' fun K hK => ?_
        refine awp_region tyOk tyPos [] rfl ?_
        simp only [push_cast, ↓brB_true, ↓brB_false, ↓reduceIte, Nat.reduceMod, Nat.reduceMul, Nat.reduceDiv, Nat.reduceAdd, Nat.reduceSub, Nat.reduceEqDiff, Nat.reduceBEq, Nat.reduceLT, Nat.reduceLeDiff, reduceCtorEq]
        repeat' apply And.intro
        all_goals first | exact True.intro | exact rfl | omega | with_reducible assumption | (simp only [List.length_set, List.length_append, List.length_replicate, List.length_cons, List.length_nil]; omega) | skip
        all_goals first | (refine hK _ ?_; clear hK K) | (simp only [push_cast]; done)
        refine awp_ret ?_
        (try simp only [AThen, ABlk])
        refine ⟨Or.inl rfl, ?_⟩
        simp only [RetOk, push_cast, ↓brB_true, ↓brB_false, ↓reduceIte, Nat.reduceMod, Nat.reduceMul, Nat.reduceDiv, Nat.reduceAdd, Nat.reduceSub, Nat.reduceEqDiff, Nat.reduceBEq, Nat.reduceLT, Nat.reduceLeDiff, reduceCtorEq]
        rw [bwon_yes hb, ← hse]
        all_goals first | rfl | exact ⟨rfl, rfl⟩ | (simp; done)
set_option maxRecDepth 20000 in
set_option maxHeartbeats 4000000 in
theorem BridgeWonS_fn (g : Pa) (hg : g.Ln 1048576) (c : List Int) (hL : bridgeB g = true → Least (bridgeW g) (boundW (bridgeW g)) c) : Fn Try.prog tyT 26 [.agg (dPa g)] [.c (DI (bwon g c))] := by
  have hB := BridgeOfS_fn g hg
  have hP := fun h => l20Credits_fn (bridgeW g) (bridgeW_len hg) (wsh_of (bridge_weighted h)) _ rfl c (hL h)
  unfold dPa dWt at hB
  unfold dWt at hP
  unfold dPa
  refine Fn_of (fn := Try.f26) (ts := [2]) Try.func26 (by kernel_rfl) rfl rfl (by rw [Try.ntmps26]; exact Nat.le_of_ble_eq_true rfl) rfl (by simp only [szA, List.mem_cons, List.not_mem_nil, or_false, forall_eq_or_imp, forall_eq, VT.cells, szL]; try decide) ?_
  rw [Try.ntmps26]
  simp only [push_cast, ↓brB_true, ↓brB_false, ↓reduceIte, Nat.reduceMod, Nat.reduceMul, Nat.reduceDiv, Nat.reduceAdd, Nat.reduceSub, Nat.reduceEqDiff, Nat.reduceBEq, Nat.reduceLT, Nat.reduceLeDiff, reduceCtorEq]
  refine awp_seq' fun K hK => ?_
  refine awp_region tyOk tyPos [] rfl ?_
  simp only [push_cast, ↓brB_true, ↓brB_false, ↓reduceIte, Nat.reduceMod, Nat.reduceMul, Nat.reduceDiv, Nat.reduceAdd, Nat.reduceSub, Nat.reduceEqDiff, Nat.reduceBEq, Nat.reduceLT, Nat.reduceLeDiff, reduceCtorEq]
  repeat' apply And.intro
  all_goals first | exact True.intro | exact rfl | omega | with_reducible assumption | (simp only [List.length_set, List.length_append, List.length_replicate, List.length_cons, List.length_nil]; omega) | skip
  all_goals first | (refine hK _ ?_; clear hK K) | (simp only [push_cast]; done)
  refine awp_seq' fun K hK => ?_
  refine awp_region tyOk tyPos [] rfl ?_
  simp only [push_cast, ↓brB_true, ↓brB_false, ↓reduceIte, Nat.reduceMod, Nat.reduceMul, Nat.reduceDiv, Nat.reduceAdd, Nat.reduceSub, Nat.reduceEqDiff, Nat.reduceBEq, Nat.reduceLT, Nat.reduceLeDiff, reduceCtorEq]
  repeat' apply And.intro
  all_goals first | exact True.intro | exact rfl | omega | with_reducible assumption | (simp only [List.length_set, List.length_append, List.length_replicate, List.length_cons, List.length_nil]; omega) | skip
  all_goals first | (refine hK _ ?_; clear hK K) | (simp only [push_cast]; done)
  refine awp_seq' fun K hK => ?_
  refine awp_region tyOk tyPos [] rfl ?_
  all_goals refine aops_cut 2 fun K9 hK9 => ?_
  all_goals simp only [push_cast, ↓brB_true, ↓brB_false, ↓reduceIte, Nat.reduceMod, Nat.reduceMul, Nat.reduceDiv, Nat.reduceAdd, Nat.reduceSub, Nat.reduceEqDiff, Nat.reduceBEq, Nat.reduceLT, Nat.reduceLeDiff, reduceCtorEq]
  all_goals repeat' (first | (apply brB_mk <;> (intro hg; (try simp only [push_cast] at hg))) | (refine ⟨_, hB, ?_⟩; simp only [push_cast, ↓brB_true, ↓brB_false, ↓reduceIte, Nat.reduceMod, Nat.reduceMul, Nat.reduceDiv, Nat.reduceAdd, Nat.reduceSub, Nat.reduceEqDiff, Nat.reduceBEq, Nat.reduceLT, Nat.reduceLeDiff, reduceCtorEq]) | apply And.intro | (intro hg; (try simp only [push_cast] at hg)))
  all_goals first | exact True.intro | exact rfl | contradiction | omega | with_reducible assumption | skip
  all_goals first | (refine hK9 _ ?_; clear hK9 K9) | (simp only [push_cast]; done)
  all_goals simp only [push_cast, ↓brB_true, ↓brB_false, ↓reduceIte, Nat.reduceMod, Nat.reduceMul, Nat.reduceDiv, Nat.reduceAdd, Nat.reduceSub, Nat.reduceEqDiff, Nat.reduceBEq, Nat.reduceLT, Nat.reduceLeDiff, reduceCtorEq]
  all_goals repeat' (first | (apply brB_mk <;> (intro hg; (try simp only [push_cast] at hg))) | (refine ⟨_, hB, ?_⟩; simp only [push_cast, ↓brB_true, ↓brB_false, ↓reduceIte, Nat.reduceMod, Nat.reduceMul, Nat.reduceDiv, Nat.reduceAdd, Nat.reduceSub, Nat.reduceEqDiff, Nat.reduceBEq, Nat.reduceLT, Nat.reduceLeDiff, reduceCtorEq]) | apply And.intro | (intro hg; (try simp only [push_cast] at hg)))
  all_goals first | exact True.intro | exact rfl | contradiction | omega | with_reducible assumption | skip
  all_goals first | (refine hK _ ?_; clear hK K) | (simp only [push_cast]; done)
  refine awp_seq' fun K1 hK1 => ?_
  refine awp_seq' fun K hK => ?_
  refine awp_region tyOk tyPos [] rfl ?_
  simp only [push_cast, ↓brB_true, ↓brB_false, ↓reduceIte, Nat.reduceMod, Nat.reduceMul, Nat.reduceDiv, Nat.reduceAdd, Nat.reduceSub, Nat.reduceEqDiff, Nat.reduceBEq, Nat.reduceLT, Nat.reduceLeDiff, reduceCtorEq]
  repeat' apply And.intro
  all_goals first | exact True.intro | exact rfl | omega | with_reducible assumption | (simp only [List.length_set, List.length_append, List.length_replicate, List.length_cons, List.length_nil]; omega) | skip
  all_goals first | (refine hK _ ?_; clear hK K) | (simp only [push_cast]; done)
  refine awp_cond rfl (fun hc => ?_) (fun hc => ?_) <;> (try simp only [push_cast] at hc)
  ·
    refine awp_seq' fun K hK => ?_
    refine awp_region tyOk tyPos [] rfl ?_
    simp only [push_cast, ↓brB_true, ↓brB_false, ↓reduceIte, Nat.reduceMod, Nat.reduceMul, Nat.reduceDiv, Nat.reduceAdd, Nat.reduceSub, Nat.reduceEqDiff, Nat.reduceBEq, Nat.reduceLT, Nat.reduceLeDiff, reduceCtorEq]
    repeat' apply And.intro
    all_goals first | exact True.intro | exact rfl | omega | with_reducible assumption | (simp only [List.length_set, List.length_append, List.length_replicate, List.length_cons, List.length_nil]; omega) | skip
    all_goals first | (refine hK _ ?_; clear hK K) | (simp only [push_cast]; done)
    refine awp_ret ?_
    (try simp only [AThen, ABlk])
    refine ⟨Or.inl rfl, ?_⟩
    simp only [RetOk, push_cast, ↓brB_true, ↓brB_false, ↓reduceIte, Nat.reduceMod, Nat.reduceMul, Nat.reduceDiv, Nat.reduceAdd, Nat.reduceSub, Nat.reduceEqDiff, Nat.reduceBEq, Nat.reduceLT, Nat.reduceLeDiff, reduceCtorEq]
    rw [bwon_no (by with_reducible assumption)]
    all_goals first | rfl | exact ⟨rfl, rfl⟩
  ·
    refine awp_skip ?_
    (try simp only [AThen, ABlk, reduceIte, Nat.reduceEqDiff]); refine hK1 _ ?_
    have hb : bridgeB g = true := by with_reducible assumption
    have h8 := hP hb
    have hsl : (c.map (decB (boundW (bridgeW g)))).length ≤ 24 := by rw [List.length_map, (hL hb).len]; exact (wsh_of (bridge_weighted hb)).n2
    generalize hse : c.map (decB (boundW (bridgeW g))) = s at h8 hsl
    refine awp_seq' fun K hK => ?_
    refine awp_region tyOk tyPos [] rfl ?_
    all_goals refine aops_cut 2 fun K9 hK9 => ?_
    all_goals simp only [push_cast, ↓brB_true, ↓brB_false, ↓reduceIte, Nat.reduceMod, Nat.reduceMul, Nat.reduceDiv, Nat.reduceAdd, Nat.reduceSub, Nat.reduceEqDiff, Nat.reduceBEq, Nat.reduceLT, Nat.reduceLeDiff, reduceCtorEq]
    all_goals repeat' (first | (apply brB_mk <;> (intro hg; (try simp only [push_cast] at hg))) | (refine ⟨_, h8, ?_⟩; simp only [push_cast, ↓brB_true, ↓brB_false, ↓reduceIte, Nat.reduceMod, Nat.reduceMul, Nat.reduceDiv, Nat.reduceAdd, Nat.reduceSub, Nat.reduceEqDiff, Nat.reduceBEq, Nat.reduceLT, Nat.reduceLeDiff, reduceCtorEq]) | apply And.intro | (intro hg; (try simp only [push_cast] at hg)))
    all_goals first | exact True.intro | exact rfl | contradiction | omega | with_reducible assumption | skip
    all_goals first | (refine hK9 _ ?_; clear hK9 K9) | (simp only [push_cast]; done)
    all_goals simp only [push_cast, ↓brB_true, ↓brB_false, ↓reduceIte, Nat.reduceMod, Nat.reduceMul, Nat.reduceDiv, Nat.reduceAdd, Nat.reduceSub, Nat.reduceEqDiff, Nat.reduceBEq, Nat.reduceLT, Nat.reduceLeDiff, reduceCtorEq]
    all_goals repeat' (first | (apply brB_mk <;> (intro hg; (try simp only [push_cast] at hg))) | (refine ⟨_, h8, ?_⟩; simp only [push_cast, ↓brB_true, ↓brB_false, ↓reduceIte, Nat.reduceMod, Nat.reduceMul, Nat.reduceDiv, Nat.reduceAdd, Nat.reduceSub, Nat.reduceEqDiff, Nat.reduceBEq, Nat.reduceLT, Nat.reduceLeDiff, reduceCtorEq]) | apply And.intro | (intro hg; (try simp only [push_cast] at hg)))
    all_goals first | exact True.intro | exact rfl | contradiction | omega | with_reducible assumption | skip
    all_goals first | (refine hK _ ?_; clear hK K) | (simp only [push_cast]; done)
    refine awp_seq' fun K2 hK2 => ?_
    refine awp_seq' fun K hK => ?_
    refine awp_region tyOk tyPos [] rfl ?_
    simp only [push_cast, ↓brB_true, ↓brB_false, ↓reduceIte, Nat.reduceMod, Nat.reduceMul, Nat.reduceDiv, Nat.reduceAdd, Nat.reduceSub, Nat.reduceEqDiff, Nat.reduceBEq, Nat.reduceLT, Nat.reduceLeDiff, reduceCtorEq]
    repeat' apply And.intro
    all_goals first | exact True.intro | exact rfl | omega | with_reducible assumption | (simp only [List.length_set, List.length_append, List.length_replicate, List.length_cons, List.length_nil]; omega) | skip
    all_goals first | (refine hK _ ?_; clear hK K) | (simp only [push_cast]; done)
    refine awp_block ?_
    refine awp_loopU [3,4,7,19,20,21,22,23,24,25,26,27,28,29,30,31,32,33] [48] (fun (k : Nat) => [(7, .int .i64 k), (3, .sl 48 [] 0 k 2)]) (fun k => []) (fun k => [(48, ⟨.ex, 2, dI ((s.take k).map flagN), none⟩)]) (fun k => k ≤ s.length) (fun k => s.length - k) 0 ?_ (by omega) ?_
    ·
      rw [show dI ((s.take 0).map flagN) = [] from rfl]
      refine cov_of rfl ?_ ?_ ?_ <;> simp only [covS, covL, push_cast, ↓brB_true, ↓brB_false, ↓reduceIte, Nat.reduceMod, Nat.reduceMul, Nat.reduceDiv, Nat.reduceAdd, Nat.reduceSub, Nat.reduceEqDiff, Nat.reduceBEq, Nat.reduceLT, Nat.reduceLeDiff, reduceCtorEq]
    · rintro k hk KL0 hL0
      have hfl : ((s.take k).map flagN).length = k := by rw [List.length_map, List.length_take]; omega
      have hfn : flagN (gi s k) = if gi s k < 0 then 1 else 0 := rfl
      simp only [push_cast, ↓brB_true, ↓brB_false, ↓reduceIte, Nat.reduceMod, Nat.reduceMul, Nat.reduceDiv, Nat.reduceAdd, Nat.reduceSub, Nat.reduceEqDiff, Nat.reduceBEq, Nat.reduceLT, Nat.reduceLeDiff, reduceCtorEq]
      refine awp_seq' fun K3 hK3 => ?_
      refine awp_seq' fun K hK => ?_
      refine awp_region tyOk tyPos [] rfl ?_
      simp only [push_cast, ↓brB_true, ↓brB_false, ↓reduceIte, Nat.reduceMod, Nat.reduceMul, Nat.reduceDiv, Nat.reduceAdd, Nat.reduceSub, Nat.reduceEqDiff, Nat.reduceBEq, Nat.reduceLT, Nat.reduceLeDiff, reduceCtorEq]
      repeat' apply And.intro
      all_goals first | exact True.intro | exact rfl | omega | with_reducible assumption | (simp only [List.length_set, List.length_append, List.length_replicate, List.length_cons, List.length_nil]; omega) | skip
      all_goals first | (refine hK _ ?_; clear hK K) | (simp only [push_cast]; done)
      refine awp_cond rfl (fun hc => ?_) (fun hc => ?_) <;> (try simp only [push_cast] at hc)
      ·
        refine awp_skip ?_
        (try simp only [AThen, ABlk, reduceIte, Nat.reduceEqDiff]); refine hK3 _ ?_
        refine awp_seq' fun K4 hK4 => ?_
        refine awp_block ?_
        refine awp_region tyOk tyPos [] rfl ?_
        all_goals refine aops_cut 7 fun K9 hK9 => ?_
        all_goals simp only [push_cast, ↓brB_true, ↓brB_false, ↓reduceIte, Nat.reduceMod, Nat.reduceMul, Nat.reduceDiv, Nat.reduceAdd, Nat.reduceSub, Nat.reduceEqDiff, Nat.reduceBEq, Nat.reduceLT, Nat.reduceLeDiff, reduceCtorEq]
        all_goals repeat' (first | (apply brB_mk <;> (intro hg; (try simp only [push_cast] at hg))) | (refine ⟨_, l1Flag_fn _, ?_⟩; simp only [push_cast, ↓brB_true, ↓brB_false, ↓reduceIte, Nat.reduceMod, Nat.reduceMul, Nat.reduceDiv, Nat.reduceAdd, Nat.reduceSub, Nat.reduceEqDiff, Nat.reduceBEq, Nat.reduceLT, Nat.reduceLeDiff, reduceCtorEq]) | apply And.intro | (intro hg; (try simp only [push_cast] at hg)))
        all_goals first | exact True.intro | exact rfl | contradiction | omega | with_reducible assumption | skip
        all_goals first | (refine hK9 _ ?_; clear hK9 K9) | (simp only [push_cast]; done)
        all_goals simp only [push_cast, ↓brB_true, ↓brB_false, ↓reduceIte, Nat.reduceMod, Nat.reduceMul, Nat.reduceDiv, Nat.reduceAdd, Nat.reduceSub, Nat.reduceEqDiff, Nat.reduceBEq, Nat.reduceLT, Nat.reduceLeDiff, reduceCtorEq]
        all_goals repeat' (first | (apply brB_mk <;> (intro hg; (try simp only [push_cast] at hg))) | (refine ⟨_, l1Flag_fn _, ?_⟩; simp only [push_cast, ↓brB_true, ↓brB_false, ↓reduceIte, Nat.reduceMod, Nat.reduceMul, Nat.reduceDiv, Nat.reduceAdd, Nat.reduceSub, Nat.reduceEqDiff, Nat.reduceBEq, Nat.reduceLT, Nat.reduceLeDiff, reduceCtorEq]) | apply And.intro | (intro hg; (try simp only [push_cast] at hg)))
        all_goals first | exact True.intro | exact rfl | contradiction | omega | with_reducible assumption | skip
        (try simp only [AThen, ABlk, reduceIte, Nat.reduceEqDiff]); refine hK4 _ ?_
        refine awp_region tyOk tyPos [] rfl ?_
        simp only [push_cast, ↓brB_true, ↓brB_false, ↓reduceIte, Nat.reduceMod, Nat.reduceMul, Nat.reduceDiv, Nat.reduceAdd, Nat.reduceSub, Nat.reduceEqDiff, Nat.reduceBEq, Nat.reduceLT, Nat.reduceLeDiff, reduceCtorEq]
        repeat' apply And.intro
        all_goals first | exact True.intro | exact rfl | omega | with_reducible assumption | (simp only [List.length_set, List.length_append, List.length_replicate, List.length_cons, List.length_nil]; omega) | skip
        refine hL0 _ ⟨k + 1, by omega, by omega, ?_⟩
        (try rw [List.take_of_length_le (l := (s.take k).map flagN) (by omega)])
        rw [take_flag (by omega), hfn]
        refine cov_of rfl ?_ ?_ ?_ <;> simp only [covS, covL, push_cast, ↓brB_true, ↓brB_false, ↓reduceIte, Nat.reduceMod, Nat.reduceMul, Nat.reduceDiv, Nat.reduceAdd, Nat.reduceSub, Nat.reduceEqDiff, Nat.reduceBEq, Nat.reduceLT, Nat.reduceLeDiff, reduceCtorEq]
        all_goals first | rfl | (simp; done)
      ·
        refine awp_exit ?_
        have hkk : k = s.length := by omega
        subst hkk
        rw [List.take_length]
        (try simp only [AThen, ABlk, reduceIte, Nat.reduceEqDiff]); refine hK2 _ ?_
        refine awp_seq' fun K hK => ?_
        refine awp_region tyOk tyPos [] rfl ?_
        simp only [push_cast, ↓brB_true, ↓brB_false, ↓reduceIte, Nat.reduceMod, Nat.reduceMul, Nat.reduceDiv, Nat.reduceAdd, Nat.reduceSub, Nat.reduceEqDiff, Nat.reduceBEq, Nat.reduceLT, Nat.reduceLeDiff, reduceCtorEq]
        repeat' apply And.intro
        all_goals first | exact True.intro | exact rfl | omega | with_reducible assumption | (simp only [List.length_set, List.length_append, List.length_replicate, List.length_cons, List.length_nil]; omega) | skip
        all_goals first | (refine hK _ ?_; clear hK K) | (simp only [push_cast]; done)
        refine awp_ret ?_
        (try simp only [AThen, ABlk])
        refine ⟨Or.inl rfl, ?_⟩
        simp only [RetOk, push_cast, ↓brB_true, ↓brB_false, ↓reduceIte, Nat.reduceMod, Nat.reduceMul, Nat.reduceDiv, Nat.reduceAdd, Nat.reduceSub, Nat.reduceEqDiff, Nat.reduceBEq, Nat.reduceLT, Nat.reduceLeDiff, reduceCtorEq]
        rw [bwon_yes hb, ← hse]
        all_goals first | rfl | exact ⟨rfl, rfl⟩ | (simp; done)
end Go.Proofs.Ytaekncnlhkammaa
