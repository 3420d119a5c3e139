/- the means of a game and of a plan: both sides -/
import Derived.Test.YtfipgnbpkbnalaaMwzUA
import Derived.Test.YtfipgnbpkbnalaaGPzUA
import Derived.Test.YtfipgnbpkbnalaaFwzUA
namespace Go.Proofs.Ytfipgnbpkbnalaa
open Nat (reduceMod reduceMul reduceDiv reduceAdd reduceSub reduceEqDiff reduceLT reduceLeDiff)
open Go.RowKit
set_option linter.unusedVariables false
set_option linter.unusedSimpArgs false

def bmeans (g : Pa) : List Fr := if bridgeB g then meansR (bridgeW g) else []
theorem bmeans_no {g : Pa} (h : bridgeB g = false) : bmeans g = [] := by unfold bmeans; rw [h]; rfl
theorem bmeans_yes {g : Pa} (h : bridgeB g = true) : bmeans g = meansR (bridgeW g) := by unfold bmeans; rw [h]; rfl
theorem bmeans_len (g : Pa) : (bmeans g).length ≤ 8 := by
  unfold bmeans
  split
  · exact meansR_len _
  · simp
def mwon (g : Pa) : List Int := (bmeans g).map fun f => if f.num < 0 then 1 else 0
theorem mwon_len (g : Pa) : LnI 1048576 (mwon g) := by unfold LnI mwon; rw [List.length_map]; have := bmeans_len g; omega
def wonT (fs : List Fr) (k : Nat) : List Int := (fs.take k).map fun f => if f.num < 0 then 1 else 0
theorem wonT_len {fs : List Fr} {k : Nat} (h : k ≤ fs.length) : (wonT fs k).length = k := by unfold wonT; rw [List.length_map, List.length_take]; omega
theorem wonT_s {fs : List Fr} {k : Nat} (h : k < fs.length) : wonT fs (k + 1) = wonT fs k ++ [if (gf fs k).num < 0 then 1 else 0] := by
  unfold wonT
  rw [List.take_add_one, gf_lt h, List.map_append]
  rfl
theorem wonT_all (fs : List Fr) : wonT fs fs.length = fs.map fun f => if f.num < 0 then 1 else 0 := by unfold wonT; rw [List.take_length]
theorem mwon_no {g : Pa} (h : bridgeB g = false ∨ meanB (bridgeW g) = false) : mwon g = [] := by
  unfold mwon bmeans
  split
  · rename_i h1
    rcases h with h | h
    · rw [h] at h1; cases h1
    · rw [meansR_no h]; rfl
  · rfl
theorem mwon_yes {g : Pa} (h : bridgeB g = true) (h2 : meanB (bridgeW g) = true) : mwon g = (meansL (bridgeW g)).map fun f => if f.num < 0 then 1 else 0 := by unfold mwon; rw [bmeans_yes h, meansR_yes h2]
set_option maxRecDepth 20000 in
set_option maxHeartbeats 4000000 in
theorem BridgeMeansI_fn (g : Pa) (hg : g.Ln 1048576) : Fn Try.prog tyT 39 [.agg (dPa g)] [.c (.lst 43 (dFrs (bmeans g)))] := by
  have hbl := bridgeW_len hg
  have hA := BridgeOfI_fn g hg
  have hO := MeanOfI_fn (bridgeW g) hbl
  unfold dPa at hA ⊢
  unfold dWt at hA hO
  refine Fn_of (fn := Try.f39) (ts := [2]) Try.func39 (by kernel_rfl) rfl rfl (by rw [Try.ntmps39]; exact Nat.le_of_ble_eq_true rfl) rfl (by simp only [szA, List.mem_cons, List.not_mem_nil, or_false, forall_eq_or_imp, forall_eq, VT.cells, szL]; try decide) ?_
  rw [Try.ntmps39]
  simp only [push_cast, ↓brB_true, ↓brB_false, ↓reduceIte, reduceMod, reduceMul, reduceDiv, reduceAdd, reduceSub, reduceEqDiff, Nat.reduceBEq, reduceLT, reduceLeDiff, reduceCtorEq]
  refine awp_seq' fun K hK => ?_
  refine awp_region tyOk tyPos [] rfl ?_
  simp only [push_cast, ↓brB_true, ↓brB_false, ↓reduceIte, reduceMod, reduceMul, reduceDiv, reduceAdd, reduceSub, reduceEqDiff, Nat.reduceBEq, reduceLT, reduceLeDiff, reduceCtorEq]
  repeat' apply And.intro
  all_goals first | exact True.intro | exact rfl | omega | with_reducible assumption | (simp only [List.length_set, List.length_append, List.length_replicate, List.length_cons, List.length_nil]; omega) | skip
  all_goals first | (refine hK _ ?_; clear hK K) | (simp only [push_cast]; done)
  refine awp_seq' fun K hK => ?_
  refine awp_region tyOk tyPos [] rfl ?_
  all_goals refine aops_cut 2 fun K9 hK9 => ?_
  all_goals simp only [push_cast, ↓brB_true, ↓brB_false, ↓reduceIte, reduceMod, reduceMul, reduceDiv, reduceAdd, reduceSub, reduceEqDiff, Nat.reduceBEq, reduceLT, reduceLeDiff, reduceCtorEq]
  all_goals repeat' (first | (apply brB_mk <;> (intro hg; (try simp only [push_cast] at hg))) | (refine ⟨_, hA, ?_⟩; simp only [push_cast, ↓brB_true, ↓brB_false, ↓reduceIte, reduceMod, reduceMul, reduceDiv, reduceAdd, reduceSub, reduceEqDiff, Nat.reduceBEq, reduceLT, reduceLeDiff, reduceCtorEq]) | apply And.intro | (intro hg; (try simp only [push_cast] at hg)))
  all_goals first | exact True.intro | exact rfl | contradiction | omega | with_reducible assumption | skip
  all_goals first | (refine hK9 _ ?_; clear hK9 K9) | (simp only [push_cast]; done)
  all_goals simp only [push_cast, ↓brB_true, ↓brB_false, ↓reduceIte, reduceMod, reduceMul, reduceDiv, reduceAdd, reduceSub, reduceEqDiff, Nat.reduceBEq, reduceLT, reduceLeDiff, reduceCtorEq]
  all_goals repeat' (first | (apply brB_mk <;> (intro hg; (try simp only [push_cast] at hg))) | (refine ⟨_, hA, ?_⟩; simp only [push_cast, ↓brB_true, ↓brB_false, ↓reduceIte, reduceMod, reduceMul, reduceDiv, reduceAdd, reduceSub, reduceEqDiff, Nat.reduceBEq, reduceLT, reduceLeDiff, reduceCtorEq]) | apply And.intro | (intro hg; (try simp only [push_cast] at hg)))
  all_goals first | exact True.intro | exact rfl | contradiction | omega | with_reducible assumption | skip
  all_goals first | (refine hK _ ?_; clear hK K) | (simp only [push_cast]; done)
  refine awp_seq' fun K1 hK1 => ?_
  refine awp_seq' fun K hK => ?_
  refine awp_region tyOk tyPos [] rfl ?_
  simp only [push_cast, ↓brB_true, ↓brB_false, ↓reduceIte, reduceMod, reduceMul, reduceDiv, reduceAdd, reduceSub, reduceEqDiff, Nat.reduceBEq, reduceLT, reduceLeDiff, reduceCtorEq]
  repeat' apply And.intro
  all_goals first | exact True.intro | exact rfl | omega | with_reducible assumption | (simp only [List.length_set, List.length_append, List.length_replicate, List.length_cons, List.length_nil]; omega) | skip
  all_goals first | (refine hK _ ?_; clear hK K) | (simp only [push_cast]; done)
  refine awp_cond rfl (fun hc => ?_) (fun hc => ?_) <;> (try simp only [push_cast] at hc)
  ·
    refine awp_seq' fun K hK => ?_
    refine awp_region tyOk tyPos [] rfl ?_
    simp only [push_cast, ↓brB_true, ↓brB_false, ↓reduceIte, reduceMod, reduceMul, reduceDiv, reduceAdd, reduceSub, reduceEqDiff, Nat.reduceBEq, reduceLT, reduceLeDiff, reduceCtorEq]
    repeat' apply And.intro
    all_goals first | exact True.intro | exact rfl | omega | with_reducible assumption | (simp only [List.length_set, List.length_append, List.length_replicate, List.length_cons, List.length_nil]; omega) | skip
    all_goals first | (refine hK _ ?_; clear hK K) | (simp only [push_cast]; done)
    refine awp_ret ?_
    (try simp only [AThen, ABlk])
    refine ⟨Or.inl rfl, ?_⟩
    simp only [RetOk, push_cast, ↓brB_true, ↓brB_false, ↓reduceIte, reduceMod, reduceMul, reduceDiv, reduceAdd, reduceSub, reduceEqDiff, Nat.reduceBEq, reduceLT, reduceLeDiff, reduceCtorEq]
    rw [bmeans_no (by with_reducible assumption)]
    all_goals first | rfl | exact ⟨rfl, rfl⟩ | (simp [dI]; done)
  ·
    refine awp_skip ?_
    (try simp only [AThen, ABlk, reduceIte, reduceEqDiff]); refine hK1 _ ?_
    refine awp_seq' fun K hK => ?_
    refine awp_region tyOk tyPos [] rfl ?_
    all_goals refine aops_cut 2 fun K9 hK9 => ?_
    all_goals simp only [push_cast, ↓brB_true, ↓brB_false, ↓reduceIte, reduceMod, reduceMul, reduceDiv, reduceAdd, reduceSub, reduceEqDiff, Nat.reduceBEq, reduceLT, reduceLeDiff, reduceCtorEq]
    all_goals repeat' (first | (apply brB_mk <;> (intro hg; (try simp only [push_cast] at hg))) | (refine ⟨_, hO, ?_⟩; simp only [push_cast, ↓brB_true, ↓brB_false, ↓reduceIte, reduceMod, reduceMul, reduceDiv, reduceAdd, reduceSub, reduceEqDiff, Nat.reduceBEq, reduceLT, reduceLeDiff, reduceCtorEq]) | apply And.intro | (intro hg; (try simp only [push_cast] at hg)))
    all_goals first | exact True.intro | exact rfl | contradiction | omega | with_reducible assumption | skip
    all_goals first | (refine hK9 _ ?_; clear hK9 K9) | (simp only [push_cast]; done)
    all_goals simp only [push_cast, ↓brB_true, ↓brB_false, ↓reduceIte, reduceMod, reduceMul, reduceDiv, reduceAdd, reduceSub, reduceEqDiff, Nat.reduceBEq, reduceLT, reduceLeDiff, reduceCtorEq]
    all_goals repeat' (first | (apply brB_mk <;> (intro hg; (try simp only [push_cast] at hg))) | (refine ⟨_, hO, ?_⟩; simp only [push_cast, ↓brB_true, ↓brB_false, ↓reduceIte, reduceMod, reduceMul, reduceDiv, reduceAdd, reduceSub, reduceEqDiff, Nat.reduceBEq, reduceLT, reduceLeDiff, reduceCtorEq]) | apply And.intro | (intro hg; (try simp only [push_cast] at hg)))
    all_goals first | exact True.intro | exact rfl | contradiction | omega | with_reducible assumption | skip
    all_goals first | (refine hK _ ?_; clear hK K) | (simp only [push_cast]; done)
    refine awp_ret ?_
    (try simp only [AThen, ABlk])
    refine ⟨Or.inl rfl, ?_⟩
    simp only [RetOk, push_cast, ↓brB_true, ↓brB_false, ↓reduceIte, reduceMod, reduceMul, reduceDiv, reduceAdd, reduceSub, reduceEqDiff, Nat.reduceBEq, reduceLT, reduceLeDiff, reduceCtorEq]
    rw [bmeans_yes (by with_reducible assumption)]
    all_goals first | rfl | exact ⟨rfl, rfl⟩ | (simp [dI]; done)
set_option maxRecDepth 20000 in
set_option maxHeartbeats 4000000 in
theorem BridgeMeansS_fn (g : Pa) (hg : g.Ln 1048576) : Fn Try.prog tyT 38 [.agg (dPa g)] [.c (.lst 43 (dFrs (bmeans g)))] := by
  have hbl := bridgeW_len hg
  have hA := BridgeOfS_fn g hg
  have hO := MeanOfS_fn (bridgeW g) hbl
  unfold dPa at hA ⊢
  unfold dWt at hA hO
  refine Fn_of (fn := Try.f38) (ts := [2]) Try.func38 (by kernel_rfl) rfl rfl (by rw [Try.ntmps38]; exact Nat.le_of_ble_eq_true rfl) rfl (by simp only [szA, List.mem_cons, List.not_mem_nil, or_false, forall_eq_or_imp, forall_eq, VT.cells, szL]; try decide) ?_
  rw [Try.ntmps38]
  simp only [push_cast, ↓brB_true, ↓brB_false, ↓reduceIte, reduceMod, reduceMul, reduceDiv, reduceAdd, reduceSub, reduceEqDiff, Nat.reduceBEq, reduceLT, reduceLeDiff, reduceCtorEq]
  refine awp_seq' fun K hK => ?_
  refine awp_region tyOk tyPos [] rfl ?_
  simp only [push_cast, ↓brB_true, ↓brB_false, ↓reduceIte, reduceMod, reduceMul, reduceDiv, reduceAdd, reduceSub, reduceEqDiff, Nat.reduceBEq, reduceLT, reduceLeDiff, reduceCtorEq]
  repeat' apply And.intro
  all_goals first | exact True.intro | exact rfl | omega | with_reducible assumption | (simp only [List.length_set, List.length_append, List.length_replicate, List.length_cons, List.length_nil]; omega) | skip
  all_goals first | (refine hK _ ?_; clear hK K) | (simp only [push_cast]; done)
  refine awp_seq' fun K hK => ?_
  refine awp_region tyOk tyPos [] rfl ?_
  all_goals refine aops_cut 2 fun K9 hK9 => ?_
  all_goals simp only [push_cast, ↓brB_true, ↓brB_false, ↓reduceIte, reduceMod, reduceMul, reduceDiv, reduceAdd, reduceSub, reduceEqDiff, Nat.reduceBEq, reduceLT, reduceLeDiff, reduceCtorEq]
  all_goals repeat' (first | (apply brB_mk <;> (intro hg; (try simp only [push_cast] at hg))) | (refine ⟨_, hA, ?_⟩; simp only [push_cast, ↓brB_true, ↓brB_false, ↓reduceIte, reduceMod, reduceMul, reduceDiv, reduceAdd, reduceSub, reduceEqDiff, Nat.reduceBEq, reduceLT, reduceLeDiff, reduceCtorEq]) | apply And.intro | (intro hg; (try simp only [push_cast] at hg)))
  all_goals first | exact True.intro | exact rfl | contradiction | omega | with_reducible assumption | skip
  all_goals first | (refine hK9 _ ?_; clear hK9 K9) | (simp only [push_cast]; done)
  all_goals simp only [push_cast, ↓brB_true, ↓brB_false, ↓reduceIte, reduceMod, reduceMul, reduceDiv, reduceAdd, reduceSub, reduceEqDiff, Nat.reduceBEq, reduceLT, reduceLeDiff, reduceCtorEq]
  all_goals repeat' (first | (apply brB_mk <;> (intro hg; (try simp only [push_cast] at hg))) | (refine ⟨_, hA, ?_⟩; simp only [push_cast, ↓brB_true, ↓brB_false, ↓reduceIte, reduceMod, reduceMul, reduceDiv, reduceAdd, reduceSub, reduceEqDiff, Nat.reduceBEq, reduceLT, reduceLeDiff, reduceCtorEq]) | apply And.intro | (intro hg; (try simp only [push_cast] at hg)))
  all_goals first | exact True.intro | exact rfl | contradiction | omega | with_reducible assumption | skip
  all_goals first | (refine hK _ ?_; clear hK K) | (simp only [push_cast]; done)
  refine awp_seq' fun K1 hK1 => ?_
  refine awp_seq' fun K hK => ?_
  refine awp_region tyOk tyPos [] rfl ?_
  simp only [push_cast, ↓brB_true, ↓brB_false, ↓reduceIte, reduceMod, reduceMul, reduceDiv, reduceAdd, reduceSub, reduceEqDiff, Nat.reduceBEq, reduceLT, reduceLeDiff, reduceCtorEq]
  repeat' apply And.intro
  all_goals first | exact True.intro | exact rfl | omega | with_reducible assumption | (simp only [List.length_set, List.length_append, List.length_replicate, List.length_cons, List.length_nil]; omega) | skip
  all_goals first | (refine hK _ ?_; clear hK K) | (simp only [push_cast]; done)
  refine awp_cond rfl (fun hc => ?_) (fun hc => ?_) <;> (try simp only [push_cast] at hc)
  ·
    refine awp_seq' fun K hK => ?_
    refine awp_regionN false tyOk tyPos ?_ rfl ?_
    · kernel_rfl
    simp only [push_cast, ↓brB_true, ↓brB_false, ↓reduceIte, reduceMod, reduceMul, reduceDiv, reduceAdd, reduceSub, reduceEqDiff, Nat.reduceBEq, reduceLT, reduceLeDiff, reduceCtorEq]
    all_goals repeat' (first | (apply brB_mk <;> (intro hg; (try simp only [push_cast] at hg))) | apply And.intro | (intro hg; (try simp only [push_cast] at hg)))
    all_goals first | exact True.intro | exact rfl | contradiction | omega | with_reducible assumption | skip
    all_goals first | (refine hK _ ?_; clear hK K) | (simp only [push_cast]; done)
    refine awp_ret ?_
    (try simp only [AThen, ABlk])
    refine ⟨Or.inl rfl, ?_⟩
    simp only [RetOk, push_cast, ↓brB_true, ↓brB_false, ↓reduceIte, reduceMod, reduceMul, reduceDiv, reduceAdd, reduceSub, reduceEqDiff, Nat.reduceBEq, reduceLT, reduceLeDiff, reduceCtorEq]
    rw [bmeans_no (by with_reducible assumption)]
    all_goals first | rfl | exact ⟨rfl, rfl⟩ | (simp [dI]; done)
  ·
    refine awp_skip ?_
    (try simp only [AThen, ABlk, reduceIte, reduceEqDiff]); refine hK1 _ ?_
    refine awp_seq' fun K hK => ?_
    refine awp_region tyOk tyPos [] rfl ?_
    all_goals refine aops_cut 2 fun K9 hK9 => ?_
    all_goals simp only [push_cast, ↓brB_true, ↓brB_false, ↓reduceIte, reduceMod, reduceMul, reduceDiv, reduceAdd, reduceSub, reduceEqDiff, Nat.reduceBEq, reduceLT, reduceLeDiff, reduceCtorEq]
    all_goals repeat' (first | (apply brB_mk <;> (intro hg; (try simp only [push_cast] at hg))) | (refine ⟨_, hO, ?_⟩; simp only [push_cast, ↓brB_true, ↓brB_false, ↓reduceIte, reduceMod, reduceMul, reduceDiv, reduceAdd, reduceSub, reduceEqDiff, Nat.reduceBEq, reduceLT, reduceLeDiff, reduceCtorEq]) | apply And.intro | (intro hg; (try simp only [push_cast] at hg)))
    all_goals first | exact True.intro | exact rfl | contradiction | omega | with_reducible assumption | skip
    all_goals first | (refine hK9 _ ?_; clear hK9 K9) | (simp only [push_cast]; done)
    all_goals simp only [push_cast, ↓brB_true, ↓brB_false, ↓reduceIte, reduceMod, reduceMul, reduceDiv, reduceAdd, reduceSub, reduceEqDiff, Nat.reduceBEq, reduceLT, reduceLeDiff, reduceCtorEq]
    all_goals repeat' (first | (apply brB_mk <;> (intro hg; (try simp only [push_cast] at hg))) | (refine ⟨_, hO, ?_⟩; simp only [push_cast, ↓brB_true, ↓brB_false, ↓reduceIte, reduceMod, reduceMul, reduceDiv, reduceAdd, reduceSub, reduceEqDiff, Nat.reduceBEq, reduceLT, reduceLeDiff, reduceCtorEq]) | apply And.intro | (intro hg; (try simp only [push_cast] at hg)))
    all_goals first | exact True.intro | exact rfl | contradiction | omega | with_reducible assumption | skip
    all_goals first | (refine hK _ ?_; clear hK K) | (simp only [push_cast]; done)
    refine awp_ret ?_
    (try simp only [AThen, ABlk])
    refine ⟨Or.inl rfl, ?_⟩
    simp only [RetOk, push_cast, ↓brB_true, ↓brB_false, ↓reduceIte, reduceMod, reduceMul, reduceDiv, reduceAdd, reduceSub, reduceEqDiff, Nat.reduceBEq, reduceLT, reduceLeDiff, reduceCtorEq]
    rw [bmeans_yes (by with_reducible assumption)]
    all_goals first | rfl | exact ⟨rfl, rfl⟩ | (simp [dI]; done)
set_option maxRecDepth 20000 in
set_option maxHeartbeats 4000000 in
theorem l1Flag_fn (b : Bool) : Fn Try.prog tyT 70 [.c (.bool b)] [.c (.int .i64 (if b then 1 else 0))] := by
  refine Fn_of (fn := Try.f70) (ts := [2]) Try.func70 (by kernel_rfl) rfl rfl (by rw [Try.ntmps70]; exact Nat.le_of_ble_eq_true rfl) rfl (by simp only [szA, List.mem_cons, List.not_mem_nil, or_false, forall_eq_or_imp, forall_eq, VT.cells, szL]; try decide) ?_
  rw [Try.ntmps70]
  simp only [push_cast, ↓brB_true, ↓brB_false, ↓reduceIte, reduceMod, reduceMul, reduceDiv, reduceAdd, reduceSub, reduceEqDiff, Nat.reduceBEq, reduceLT, reduceLeDiff, reduceCtorEq]
  refine awp_seq' fun K hK => ?_
  refine awp_region tyOk tyPos [] rfl ?_
  simp only [push_cast, ↓brB_true, ↓brB_false, ↓reduceIte, reduceMod, reduceMul, reduceDiv, reduceAdd, reduceSub, reduceEqDiff, Nat.reduceBEq, reduceLT, reduceLeDiff, reduceCtorEq]
  repeat' apply And.intro
  all_goals first | exact True.intro | exact rfl | omega | with_reducible assumption | (simp only [List.length_set, List.length_append, List.length_replicate, List.length_cons, List.length_nil]; omega) | skip
  all_goals first | (refine hK _ ?_; clear hK K) | (simp only [push_cast]; done)
  refine awp_seq' fun K1 hK1 => ?_
  refine awp_seq' fun K hK => ?_
  refine awp_region tyOk tyPos [] rfl ?_
  simp only [push_cast, ↓brB_true, ↓brB_false, ↓reduceIte, reduceMod, reduceMul, reduceDiv, reduceAdd, reduceSub, reduceEqDiff, Nat.reduceBEq, reduceLT, reduceLeDiff, reduceCtorEq]
  repeat' apply And.intro
  all_goals first | exact True.intro | exact rfl | omega | with_reducible assumption | (simp only [List.length_set, List.length_append, List.length_replicate, List.length_cons, List.length_nil]; omega) | skip
  all_goals first | (refine hK _ ?_; clear hK K) | (simp only [push_cast]; done)
  refine awp_cond rfl (fun hc => ?_) (fun hc => ?_) <;> (try simp only [push_cast] at hc)
  ·
    refine awp_seq' fun K hK => ?_
    refine awp_region tyOk tyPos [] rfl ?_
    simp only [push_cast, ↓brB_true, ↓brB_false, ↓reduceIte, reduceMod, reduceMul, reduceDiv, reduceAdd, reduceSub, reduceEqDiff, Nat.reduceBEq, reduceLT, reduceLeDiff, reduceCtorEq]
    repeat' apply And.intro
    all_goals first | exact True.intro | exact rfl | omega | with_reducible assumption | (simp only [List.length_set, List.length_append, List.length_replicate, List.length_cons, List.length_nil]; omega) | skip
    all_goals first | (refine hK _ ?_; clear hK K) | (simp only [push_cast]; done)
    refine awp_ret ?_
    (try simp only [AThen, ABlk])
    refine ⟨Or.inl rfl, ?_⟩
    simp only [RetOk, push_cast, ↓brB_true, ↓brB_false, ↓reduceIte, reduceMod, reduceMul, reduceDiv, reduceAdd, reduceSub, reduceEqDiff, Nat.reduceBEq, reduceLT, reduceLeDiff, reduceCtorEq]
    rw [show b = true from by with_reducible assumption]; rfl
  ·
    refine awp_skip ?_
    (try simp only [AThen, ABlk, reduceIte, reduceEqDiff]); refine hK1 _ ?_
    refine awp_seq' fun K hK => ?_
    refine awp_region tyOk tyPos [] rfl ?_
    simp only [push_cast, ↓brB_true, ↓brB_false, ↓reduceIte, reduceMod, reduceMul, reduceDiv, reduceAdd, reduceSub, reduceEqDiff, Nat.reduceBEq, reduceLT, reduceLeDiff, reduceCtorEq]
    repeat' apply And.intro
    all_goals first | exact True.intro | exact rfl | omega | with_reducible assumption | (simp only [List.length_set, List.length_append, List.length_replicate, List.length_cons, List.length_nil]; omega) | skip
    all_goals first | (refine hK _ ?_; clear hK K) | (simp only [push_cast]; done)
    refine awp_ret ?_
    (try simp only [AThen, ABlk])
    refine ⟨Or.inl rfl, ?_⟩
    simp only [RetOk, push_cast, ↓brB_true, ↓brB_false, ↓reduceIte, reduceMod, reduceMul, reduceDiv, reduceAdd, reduceSub, reduceEqDiff, Nat.reduceBEq, reduceLT, reduceLeDiff, reduceCtorEq]
    rw [show b = false from by with_reducible assumption]; rfl
set_option maxRecDepth 20000 in
set_option maxHeartbeats 4000000 in
theorem MeanWonI_fn (g : Pa) (hg : g.Ln 1048576) : Fn Try.prog tyT 35 [.agg (dPa g)] [.c (DI (mwon g))] := by
  have hbl := bridgeW_len hg
  have hA := BridgeOfI_fn g hg
  have hM := isMean_fn (bridgeW g) hbl
  have hO := fun h => meanOf_fn (bridgeW g) hbl (wmn_of h)
  unfold dPa at hA ⊢
  unfold dWt at hA hM hO
  refine Fn_of (fn := Try.f35) (ts := [2]) Try.func35 (by kernel_rfl) rfl rfl (by rw [Try.ntmps35]; exact Nat.le_of_ble_eq_true rfl) rfl (by simp only [szA, List.mem_cons, List.not_mem_nil, or_false, forall_eq_or_imp, forall_eq, VT.cells, szL]; try decide) ?_
  rw [Try.ntmps35]
  simp only [push_cast, ↓brB_true, ↓brB_false, ↓reduceIte, reduceMod, reduceMul, reduceDiv, reduceAdd, reduceSub, reduceEqDiff, Nat.reduceBEq, reduceLT, reduceLeDiff, reduceCtorEq]
  refine awp_seq' fun K hK => ?_
  refine awp_region tyOk tyPos [] rfl ?_
  simp only [push_cast, ↓brB_true, ↓brB_false, ↓reduceIte, reduceMod, reduceMul, reduceDiv, reduceAdd, reduceSub, reduceEqDiff, Nat.reduceBEq, reduceLT, reduceLeDiff, reduceCtorEq]
  repeat' apply And.intro
  all_goals first | exact True.intro | exact rfl | omega | with_reducible assumption | (simp only [List.length_set, List.length_append, List.length_replicate, List.length_cons, List.length_nil]; omega) | skip
  all_goals first | (refine hK _ ?_; clear hK K) | (simp only [push_cast]; done)
  refine awp_seq' fun K hK => ?_
  refine awp_region tyOk tyPos [] rfl ?_
  all_goals refine aops_cut 2 fun K9 hK9 => ?_
  all_goals simp only [push_cast, ↓brB_true, ↓brB_false, ↓reduceIte, reduceMod, reduceMul, reduceDiv, reduceAdd, reduceSub, reduceEqDiff, Nat.reduceBEq, reduceLT, reduceLeDiff, reduceCtorEq]
  all_goals repeat' (first | (apply brB_mk <;> (intro hg; (try simp only [push_cast] at hg))) | (refine ⟨_, hA, ?_⟩; simp only [push_cast, ↓brB_true, ↓brB_false, ↓reduceIte, reduceMod, reduceMul, reduceDiv, reduceAdd, reduceSub, reduceEqDiff, Nat.reduceBEq, reduceLT, reduceLeDiff, reduceCtorEq]) | apply And.intro | (intro hg; (try simp only [push_cast] at hg)))
  all_goals first | exact True.intro | exact rfl | contradiction | omega | with_reducible assumption | skip
  all_goals first | (refine hK9 _ ?_; clear hK9 K9) | (simp only [push_cast]; done)
  all_goals simp only [push_cast, ↓brB_true, ↓brB_false, ↓reduceIte, reduceMod, reduceMul, reduceDiv, reduceAdd, reduceSub, reduceEqDiff, Nat.reduceBEq, reduceLT, reduceLeDiff, reduceCtorEq]
  all_goals repeat' (first | (apply brB_mk <;> (intro hg; (try simp only [push_cast] at hg))) | (refine ⟨_, hA, ?_⟩; simp only [push_cast, ↓brB_true, ↓brB_false, ↓reduceIte, reduceMod, reduceMul, reduceDiv, reduceAdd, reduceSub, reduceEqDiff, Nat.reduceBEq, reduceLT, reduceLeDiff, reduceCtorEq]) | apply And.intro | (intro hg; (try simp only [push_cast] at hg)))
  all_goals first | exact True.intro | exact rfl | contradiction | omega | with_reducible assumption | skip
  all_goals first | (refine hK _ ?_; clear hK K) | (simp only [push_cast]; done)
  refine awp_seq' fun K1 hK1 => ?_
  refine awp_seq' fun K hK => ?_
  refine awp_regionN false tyOk tyPos ?_ rfl ?_
  · kernel_rfl
  all_goals refine seqE_cut 5 fun K9 hK9 => ?_
  all_goals simp only [push_cast, ↓brB_true, ↓brB_false, ↓reduceIte, reduceMod, reduceMul, reduceDiv, reduceAdd, reduceSub, reduceEqDiff, Nat.reduceBEq, reduceLT, reduceLeDiff, reduceCtorEq]
  all_goals repeat' (first | (apply brB_mk <;> (intro hg; (try simp only [push_cast] at hg))) | (refine ⟨_, hM, ?_⟩; simp only [push_cast, ↓brB_true, ↓brB_false, ↓reduceIte, reduceMod, reduceMul, reduceDiv, reduceAdd, reduceSub, reduceEqDiff, Nat.reduceBEq, reduceLT, reduceLeDiff, reduceCtorEq]) | apply And.intro | (intro hg; (try simp only [push_cast] at hg)))
  all_goals first | exact True.intro | exact rfl | contradiction | omega | with_reducible assumption | skip
  all_goals first | (refine hK9 _ ?_; clear hK9 K9) | (simp only [push_cast]; done)
  all_goals simp only [push_cast, ↓brB_true, ↓brB_false, ↓reduceIte, reduceMod, reduceMul, reduceDiv, reduceAdd, reduceSub, reduceEqDiff, Nat.reduceBEq, reduceLT, reduceLeDiff, reduceCtorEq]
  all_goals repeat' (first | (apply brB_mk <;> (intro hg; (try simp only [push_cast] at hg))) | (refine ⟨_, hM, ?_⟩; simp only [push_cast, ↓brB_true, ↓brB_false, ↓reduceIte, reduceMod, reduceMul, reduceDiv, reduceAdd, reduceSub, reduceEqDiff, Nat.reduceBEq, reduceLT, reduceLeDiff, reduceCtorEq]) | apply And.intro | (intro hg; (try simp only [push_cast] at hg)))
  all_goals first | exact True.intro | exact rfl | contradiction | omega | with_reducible assumption | skip
  all_goals first | (refine hK _ ?_; clear hK K) | (simp only [push_cast]; done)
  all_goals refine awp_cond rfl (fun hc => ?_) (fun hc => ?_)
  all_goals (first | (cases hc; done) | skip)
  all_goals (try simp only [push_cast] at hc)
  all_goals try (
      refine awp_seq' fun K hK => ?_
      refine awp_region tyOk tyPos [] rfl ?_
      simp only [push_cast, ↓brB_true, ↓brB_false, ↓reduceIte, reduceMod, reduceMul, reduceDiv, reduceAdd, reduceSub, reduceEqDiff, Nat.reduceBEq, reduceLT, reduceLeDiff, reduceCtorEq]
      repeat' apply And.intro
      all_goals first | exact True.intro | exact rfl | omega | with_reducible assumption | (simp only [List.length_set, List.length_append, List.length_replicate, List.length_cons, List.length_nil]; omega) | skip
      all_goals first | (refine hK _ ?_; clear hK K) | (simp only [push_cast]; done)
      refine awp_ret ?_
      (try simp only [AThen, ABlk])
      refine ⟨Or.inl rfl, ?_⟩
      simp only [RetOk, push_cast, ↓brB_true, ↓brB_false, ↓reduceIte, reduceMod, reduceMul, reduceDiv, reduceAdd, reduceSub, reduceEqDiff, Nat.reduceBEq, reduceLT, reduceLeDiff, reduceCtorEq]
      rw [mwon_no (by first | exact .inl (by with_reducible assumption) | exact .inr (by with_reducible assumption))]
      all_goals first | rfl | exact ⟨rfl, rfl⟩ | (simp [dI]; done)
      done)
  refine awp_skip ?_
  (try simp only [AThen, ABlk, reduceIte, reduceEqDiff]); refine hK1 _ ?_
  have hbb : bridgeB g = true := by with_reducible assumption
  have hmb : meanB (bridgeW g) = true := by with_reducible assumption
  have hm8 := (wmn_of hmb).n8
  have hml := meansL_len (bridgeW g)
  refine awp_seq' fun K hK => ?_
  refine awp_region tyOk tyPos [] rfl ?_
  simp only [push_cast, ↓brB_true, ↓brB_false, ↓reduceIte, reduceMod, reduceMul, reduceDiv, reduceAdd, reduceSub, reduceEqDiff, Nat.reduceBEq, reduceLT, reduceLeDiff, reduceCtorEq]
  repeat' apply And.intro
  all_goals first | exact True.intro | exact rfl | omega | with_reducible assumption | (simp only [List.length_set, List.length_append, List.length_replicate, List.length_cons, List.length_nil]; omega) | skip
  all_goals first | (refine hK _ ?_; clear hK K) | (simp only [push_cast]; done)
  refine awp_seq' fun K2 hK2 => ?_
  refine awp_seq' fun K hK => ?_
  refine awp_region tyOk tyPos [] rfl ?_
  all_goals refine aops_cut 2 fun K9 hK9 => ?_
  all_goals simp only [push_cast, ↓brB_true, ↓brB_false, ↓reduceIte, reduceMod, reduceMul, reduceDiv, reduceAdd, reduceSub, reduceEqDiff, Nat.reduceBEq, reduceLT, reduceLeDiff, reduceCtorEq]
  all_goals repeat' (first | (apply brB_mk <;> (intro hg; (try simp only [push_cast] at hg))) | (refine ⟨_, hO hmb, ?_⟩; simp only [push_cast, ↓brB_true, ↓brB_false, ↓reduceIte, reduceMod, reduceMul, reduceDiv, reduceAdd, reduceSub, reduceEqDiff, Nat.reduceBEq, reduceLT, reduceLeDiff, reduceCtorEq]) | apply And.intro | (intro hg; (try simp only [push_cast] at hg)))
  all_goals first | exact True.intro | exact rfl | contradiction | omega | with_reducible assumption | skip
  all_goals first | (refine hK9 _ ?_; clear hK9 K9) | (simp only [push_cast]; done)
  all_goals simp only [push_cast, ↓brB_true, ↓brB_false, ↓reduceIte, reduceMod, reduceMul, reduceDiv, reduceAdd, reduceSub, reduceEqDiff, Nat.reduceBEq, reduceLT, reduceLeDiff, reduceCtorEq]
  all_goals repeat' (first | (apply brB_mk <;> (intro hg; (try simp only [push_cast] at hg))) | (refine ⟨_, hO hmb, ?_⟩; simp only [push_cast, ↓brB_true, ↓brB_false, ↓reduceIte, reduceMod, reduceMul, reduceDiv, reduceAdd, reduceSub, reduceEqDiff, Nat.reduceBEq, reduceLT, reduceLeDiff, reduceCtorEq]) | apply And.intro | (intro hg; (try simp only [push_cast] at hg)))
  all_goals first | exact True.intro | exact rfl | contradiction | omega | with_reducible assumption | skip
  all_goals first | (refine hK _ ?_; clear hK K) | (simp only [push_cast]; done)
  refine awp_block ?_
  refine awp_loopU [3,5,7,15,24,25,26,27,28,29,30,31,32,33,34,35,36,37] [80] (fun (k : Nat) => [(24, .int .i64 k), (5, .sl 80 [] 0 k 2)]) (fun k => []) (fun k => [(80, ⟨.ex, 2, dI (wonT (meansL (bridgeW g)) k), none⟩)]) (fun k => k ≤ (meansL (bridgeW g)).length) (fun k => (meansL (bridgeW g)).length - k) 0 ?_ (by omega) ?_
  ·
    rw [show dI (wonT (meansL (bridgeW g)) 0) = [] from rfl]
    refine cov_of rfl ?_ ?_ ?_ <;> simp only [covS, covL, push_cast, ↓brB_true, ↓brB_false, ↓reduceIte, reduceMod, reduceMul, reduceDiv, reduceAdd, reduceSub, reduceEqDiff, Nat.reduceBEq, reduceLT, reduceLeDiff, reduceCtorEq]
  · rintro k hk KL0 hL0
    have hwl := wonT_len hk
    simp only [push_cast, ↓brB_true, ↓brB_false, ↓reduceIte, reduceMod, reduceMul, reduceDiv, reduceAdd, reduceSub, reduceEqDiff, Nat.reduceBEq, reduceLT, reduceLeDiff, reduceCtorEq]
    refine awp_seq' fun K hK => ?_
    refine awp_region tyOk tyPos [] rfl ?_
    simp only [push_cast, ↓brB_true, ↓brB_false, ↓reduceIte, reduceMod, reduceMul, reduceDiv, reduceAdd, reduceSub, reduceEqDiff, Nat.reduceBEq, reduceLT, reduceLeDiff, reduceCtorEq]
    repeat' apply And.intro
    all_goals first | exact True.intro | exact rfl | omega | with_reducible assumption | (simp only [List.length_set, List.length_append, List.length_replicate, List.length_cons, List.length_nil]; omega) | skip
    all_goals first | (refine hK _ ?_; clear hK K) | (simp only [push_cast]; done)
    refine awp_seq' fun K3 hK3 => ?_
    refine awp_cond rfl (fun hc => ?_) (fun hc => ?_) <;> (try simp only [push_cast] at hc)
    ·
      refine awp_skip ?_
      (try simp only [AThen, ABlk, reduceIte, reduceEqDiff]); refine hK3 _ ?_
      refine awp_seq' fun K4 hK4 => ?_
      refine awp_block ?_
      refine awp_seq' fun K hK => ?_
      refine awp_region tyOk tyPos [] rfl ?_
      simp only [push_cast, ↓brB_true, ↓brB_false, ↓reduceIte, reduceMod, reduceMul, reduceDiv, reduceAdd, reduceSub, reduceEqDiff, Nat.reduceBEq, reduceLT, reduceLeDiff, reduceCtorEq]
      repeat' apply And.intro
      all_goals first | exact True.intro | exact rfl | omega | with_reducible assumption | (simp only [List.length_set, List.length_append, List.length_replicate, List.length_cons, List.length_nil]; omega) | skip
      all_goals first | (refine hK _ ?_; clear hK K) | (simp only [push_cast]; done)
      refine awp_seq' fun K hK => ?_
      refine awp_region tyOk tyPos [] rfl ?_
      simp only [push_cast, ↓brB_true, ↓brB_false, ↓reduceIte, reduceMod, reduceMul, reduceDiv, reduceAdd, reduceSub, reduceEqDiff, Nat.reduceBEq, reduceLT, reduceLeDiff, reduceCtorEq]
      repeat' apply And.intro
      all_goals first | exact True.intro | exact rfl | omega | with_reducible assumption | (simp only [List.length_set, List.length_append, List.length_replicate, List.length_cons, List.length_nil]; omega) | skip
      all_goals first | (refine hK _ ?_; clear hK K) | (simp only [push_cast]; done)
      refine awp_cond rfl (fun hc => ?_) (fun hc => ?_) <;> (try simp only [push_cast] at hc)
      ·
        refine awp_region tyOk tyPos [] rfl ?_
        simp only [push_cast, ↓brB_true, ↓brB_false, ↓reduceIte, reduceMod, reduceMul, reduceDiv, reduceAdd, reduceSub, reduceEqDiff, Nat.reduceBEq, reduceLT, reduceLeDiff, reduceCtorEq]
        repeat' apply And.intro
        all_goals first | exact True.intro | exact rfl | omega | with_reducible assumption | (simp only [List.length_set, List.length_append, List.length_replicate, List.length_cons, List.length_nil]; omega) | skip
        (try simp only [AThen, ABlk, reduceIte, reduceEqDiff]); refine hK4 _ ?_
        refine awp_region tyOk tyPos [] rfl ?_
        simp only [push_cast, ↓brB_true, ↓brB_false, ↓reduceIte, reduceMod, reduceMul, reduceDiv, reduceAdd, reduceSub, reduceEqDiff, Nat.reduceBEq, reduceLT, reduceLeDiff, reduceCtorEq]
        repeat' apply And.intro
        all_goals first | exact True.intro | exact rfl | omega | with_reducible assumption | (simp only [List.length_set, List.length_append, List.length_replicate, List.length_cons, List.length_nil]; omega) | skip
        refine hL0 _ ⟨k + 1, by omega, by omega, ?_⟩
        (try rw [List.take_of_length_le (l := wonT (meansL (bridgeW g)) k) (by omega)])
        rw [wonT_s (by omega), if_neg (by omega)]
        refine cov_of rfl ?_ ?_ ?_ <;> simp only [covS, covL, push_cast, ↓brB_true, ↓brB_false, ↓reduceIte, reduceMod, reduceMul, reduceDiv, reduceAdd, reduceSub, reduceEqDiff, Nat.reduceBEq, reduceLT, reduceLeDiff, reduceCtorEq]
      ·
        refine awp_region tyOk tyPos [] rfl ?_
        simp only [push_cast, ↓brB_true, ↓brB_false, ↓reduceIte, reduceMod, reduceMul, reduceDiv, reduceAdd, reduceSub, reduceEqDiff, Nat.reduceBEq, reduceLT, reduceLeDiff, reduceCtorEq]
        repeat' apply And.intro
        all_goals first | exact True.intro | exact rfl | omega | with_reducible assumption | (simp only [List.length_set, List.length_append, List.length_replicate, List.length_cons, List.length_nil]; omega) | skip
        (try simp only [AThen, ABlk, reduceIte, reduceEqDiff]); refine hK4 _ ?_
        refine awp_region tyOk tyPos [] rfl ?_
        simp only [push_cast, ↓brB_true, ↓brB_false, ↓reduceIte, reduceMod, reduceMul, reduceDiv, reduceAdd, reduceSub, reduceEqDiff, Nat.reduceBEq, reduceLT, reduceLeDiff, reduceCtorEq]
        repeat' apply And.intro
        all_goals first | exact True.intro | exact rfl | omega | with_reducible assumption | (simp only [List.length_set, List.length_append, List.length_replicate, List.length_cons, List.length_nil]; omega) | skip
        refine hL0 _ ⟨k + 1, by omega, by omega, ?_⟩
        (try rw [List.take_of_length_le (l := wonT (meansL (bridgeW g)) k) (by omega)])
        rw [wonT_s (by omega), if_pos (by omega)]
        refine cov_of rfl ?_ ?_ ?_ <;> simp only [covS, covL, push_cast, ↓brB_true, ↓brB_false, ↓reduceIte, reduceMod, reduceMul, reduceDiv, reduceAdd, reduceSub, reduceEqDiff, Nat.reduceBEq, reduceLT, reduceLeDiff, reduceCtorEq]
    ·
      refine awp_exit ?_
      have hkk : k = (meansL (bridgeW g)).length := by omega
      subst hkk
      rw [wonT_all]
      (try simp only [AThen, ABlk, reduceIte, reduceEqDiff]); refine hK2 _ ?_
      refine awp_seq' fun K hK => ?_
      refine awp_region tyOk tyPos [] rfl ?_
      simp only [push_cast, ↓brB_true, ↓brB_false, ↓reduceIte, reduceMod, reduceMul, reduceDiv, reduceAdd, reduceSub, reduceEqDiff, Nat.reduceBEq, reduceLT, reduceLeDiff, reduceCtorEq]
      repeat' apply And.intro
      all_goals first | exact True.intro | exact rfl | omega | with_reducible assumption | (simp only [List.length_set, List.length_append, List.length_replicate, List.length_cons, List.length_nil]; omega) | skip
      all_goals first | (refine hK _ ?_; clear hK K) | (simp only [push_cast]; done)
      refine awp_ret ?_
      (try simp only [AThen, ABlk])
      refine ⟨Or.inl rfl, ?_⟩
      simp only [RetOk, push_cast, ↓brB_true, ↓brB_false, ↓reduceIte, reduceMod, reduceMul, reduceDiv, reduceAdd, reduceSub, reduceEqDiff, Nat.reduceBEq, reduceLT, reduceLeDiff, reduceCtorEq]
      rw [mwon_yes hbb hmb]
      first | rfl | exact ⟨rfl, by rw [List.length_map]⟩ | (rw [List.length_map]; done)
set_option maxRecDepth 20000 in
set_option maxHeartbeats 4000000 in
theorem MeanWonS_fn (g : Pa) (hg : g.Ln 1048576) : Fn Try.prog tyT 33 [.agg (dPa g)] [.c (DI (mwon g))] := by
  have hbl := bridgeW_len hg
  have hO := BridgeMeansS_fn g hg
  have hFl := l1Flag_fn
  have hb8 := bmeans_len g
  unfold dPa at hO ⊢
  refine Fn_of (fn := Try.f33) (ts := [2]) Try.func33 (by kernel_rfl) rfl rfl (by rw [Try.ntmps33]; exact Nat.le_of_ble_eq_true rfl) rfl (by simp only [szA, List.mem_cons, List.not_mem_nil, or_false, forall_eq_or_imp, forall_eq, VT.cells, szL]; try decide) ?_
  rw [Try.ntmps33]
  simp only [push_cast, ↓brB_true, ↓brB_false, ↓reduceIte, reduceMod, reduceMul, reduceDiv, reduceAdd, reduceSub, reduceEqDiff, Nat.reduceBEq, reduceLT, reduceLeDiff, reduceCtorEq]
  refine awp_seq' fun K hK => ?_
  refine awp_region tyOk tyPos [] rfl ?_
  simp only [push_cast, ↓brB_true, ↓brB_false, ↓reduceIte, reduceMod, reduceMul, reduceDiv, reduceAdd, reduceSub, reduceEqDiff, Nat.reduceBEq, reduceLT, reduceLeDiff, reduceCtorEq]
  repeat' apply And.intro
  all_goals first | exact True.intro | exact rfl | omega | with_reducible assumption | (simp only [List.length_set, List.length_append, List.length_replicate, List.length_cons, List.length_nil]; omega) | skip
  all_goals first | (refine hK _ ?_; clear hK K) | (simp only [push_cast]; done)
  refine awp_seq' fun K hK => ?_
  refine awp_region tyOk tyPos [] rfl ?_
  simp only [push_cast, ↓brB_true, ↓brB_false, ↓reduceIte, reduceMod, reduceMul, reduceDiv, reduceAdd, reduceSub, reduceEqDiff, Nat.reduceBEq, reduceLT, reduceLeDiff, reduceCtorEq]
  repeat' apply And.intro
  all_goals first | exact True.intro | exact rfl | omega | with_reducible assumption | (simp only [List.length_set, List.length_append, List.length_replicate, List.length_cons, List.length_nil]; omega) | skip
  all_goals first | (refine hK _ ?_; clear hK K) | (simp only [push_cast]; done)
  refine awp_seq' fun K hK => ?_
  refine awp_region tyOk tyPos [] rfl ?_
  all_goals refine aops_cut 2 fun K9 hK9 => ?_
  all_goals simp only [push_cast, ↓brB_true, ↓brB_false, ↓reduceIte, reduceMod, reduceMul, reduceDiv, reduceAdd, reduceSub, reduceEqDiff, Nat.reduceBEq, reduceLT, reduceLeDiff, reduceCtorEq]
  all_goals repeat' (first | (apply brB_mk <;> (intro hg; (try simp only [push_cast] at hg))) | (refine ⟨_, hO, ?_⟩; simp only [push_cast, ↓brB_true, ↓brB_false, ↓reduceIte, reduceMod, reduceMul, reduceDiv, reduceAdd, reduceSub, reduceEqDiff, Nat.reduceBEq, reduceLT, reduceLeDiff, reduceCtorEq]) | apply And.intro | (intro hg; (try simp only [push_cast] at hg)))
  all_goals first | exact True.intro | exact rfl | contradiction | omega | with_reducible assumption | skip
  all_goals first | (refine hK9 _ ?_; clear hK9 K9) | (simp only [push_cast]; done)
  all_goals simp only [push_cast, ↓brB_true, ↓brB_false, ↓reduceIte, reduceMod, reduceMul, reduceDiv, reduceAdd, reduceSub, reduceEqDiff, Nat.reduceBEq, reduceLT, reduceLeDiff, reduceCtorEq]
  all_goals repeat' (first | (apply brB_mk <;> (intro hg; (try simp only [push_cast] at hg))) | (refine ⟨_, hO, ?_⟩; simp only [push_cast, ↓brB_true, ↓brB_false, ↓reduceIte, reduceMod, reduceMul, reduceDiv, reduceAdd, reduceSub, reduceEqDiff, Nat.reduceBEq, reduceLT, reduceLeDiff, reduceCtorEq]) | apply And.intro | (intro hg; (try simp only [push_cast] at hg)))
  all_goals first | exact True.intro | exact rfl | contradiction | omega | with_reducible assumption | skip
  all_goals first | (refine hK _ ?_; clear hK K) | (simp only [push_cast]; done)
  refine awp_seq' fun K1 hK1 => ?_
  refine awp_seq' fun K hK => ?_
  refine awp_region tyOk tyPos [] rfl ?_
  simp only [push_cast, ↓brB_true, ↓brB_false, ↓reduceIte, reduceMod, reduceMul, reduceDiv, reduceAdd, reduceSub, reduceEqDiff, Nat.reduceBEq, reduceLT, reduceLeDiff, reduceCtorEq]
  repeat' apply And.intro
  all_goals first | exact True.intro | exact rfl | omega | with_reducible assumption | (simp only [List.length_set, List.length_append, List.length_replicate, List.length_cons, List.length_nil]; omega) | skip
  all_goals first | (refine hK _ ?_; clear hK K) | (simp only [push_cast]; done)
  refine awp_block ?_
  refine awp_loopU [3,5,9,10,11,12,13,14,15,16,17,18,19,20,21,22,23,24] [48] (fun (k : Nat) => [(5, .int .i64 k), (3, .sl 48 [] 0 k 2)]) (fun k => []) (fun k => [(48, ⟨.ex, 2, dI (wonT (bmeans g) k), none⟩)]) (fun k => k ≤ (bmeans g).length) (fun k => (bmeans g).length - k) 0 ?_ (by omega) ?_
  ·
    rw [show dI (wonT (bmeans g) 0) = [] from rfl]
    refine cov_of rfl ?_ ?_ ?_ <;> simp only [covS, covL, push_cast, ↓brB_true, ↓brB_false, ↓reduceIte, reduceMod, reduceMul, reduceDiv, reduceAdd, reduceSub, reduceEqDiff, Nat.reduceBEq, reduceLT, reduceLeDiff, reduceCtorEq]
  · rintro k hk KL0 hL0
    have hwl := wonT_len hk
    simp only [push_cast, ↓brB_true, ↓brB_false, ↓reduceIte, reduceMod, reduceMul, reduceDiv, reduceAdd, reduceSub, reduceEqDiff, Nat.reduceBEq, reduceLT, reduceLeDiff, reduceCtorEq]
    refine awp_seq' fun K2 hK2 => ?_
    refine awp_seq' fun K hK => ?_
    refine awp_region tyOk tyPos [] rfl ?_
    simp only [push_cast, ↓brB_true, ↓brB_false, ↓reduceIte, reduceMod, reduceMul, reduceDiv, reduceAdd, reduceSub, reduceEqDiff, Nat.reduceBEq, reduceLT, reduceLeDiff, reduceCtorEq]
    repeat' apply And.intro
    all_goals first | exact True.intro | exact rfl | omega | with_reducible assumption | (simp only [List.length_set, List.length_append, List.length_replicate, List.length_cons, List.length_nil]; omega) | skip
    all_goals first | (refine hK _ ?_; clear hK K) | (simp only [push_cast]; done)
    refine awp_cond rfl (fun hc => ?_) (fun hc => ?_) <;> (try simp only [push_cast] at hc)
    ·
      refine awp_skip ?_
      (try simp only [AThen, ABlk, reduceIte, reduceEqDiff]); refine hK2 _ ?_
      refine awp_seq' fun K3 hK3 => ?_
      refine awp_block ?_
      refine awp_region tyOk tyPos [] rfl ?_
      all_goals refine aops_cut 8 fun K9 hK9 => ?_
      all_goals simp only [push_cast, ↓brB_true, ↓brB_false, ↓reduceIte, reduceMod, reduceMul, reduceDiv, reduceAdd, reduceSub, reduceEqDiff, Nat.reduceBEq, reduceLT, reduceLeDiff, reduceCtorEq]
      all_goals repeat' (first | (apply brB_mk <;> (intro hg; (try simp only [push_cast] at hg))) | (refine ⟨_, hFl _, ?_⟩; simp only [push_cast, ↓brB_true, ↓brB_false, ↓reduceIte, reduceMod, reduceMul, reduceDiv, reduceAdd, reduceSub, reduceEqDiff, Nat.reduceBEq, reduceLT, reduceLeDiff, reduceCtorEq]) | apply And.intro | (intro hg; (try simp only [push_cast] at hg)))
      all_goals first | exact True.intro | exact rfl | contradiction | omega | with_reducible assumption | skip
      all_goals first | (refine hK9 _ ?_; clear hK9 K9) | (simp only [push_cast]; done)
      all_goals simp only [push_cast, ↓brB_true, ↓brB_false, ↓reduceIte, reduceMod, reduceMul, reduceDiv, reduceAdd, reduceSub, reduceEqDiff, Nat.reduceBEq, reduceLT, reduceLeDiff, reduceCtorEq]
      all_goals repeat' (first | (apply brB_mk <;> (intro hg; (try simp only [push_cast] at hg))) | (refine ⟨_, hFl _, ?_⟩; simp only [push_cast, ↓brB_true, ↓brB_false, ↓reduceIte, reduceMod, reduceMul, reduceDiv, reduceAdd, reduceSub, reduceEqDiff, Nat.reduceBEq, reduceLT, reduceLeDiff, reduceCtorEq]) | apply And.intro | (intro hg; (try simp only [push_cast] at hg)))
      all_goals first | exact True.intro | exact rfl | contradiction | omega | with_reducible assumption | skip
      (try simp only [AThen, ABlk, reduceIte, reduceEqDiff]); refine hK3 _ ?_
      refine awp_region tyOk tyPos [] rfl ?_
      simp only [push_cast, ↓brB_true, ↓brB_false, ↓reduceIte, reduceMod, reduceMul, reduceDiv, reduceAdd, reduceSub, reduceEqDiff, Nat.reduceBEq, reduceLT, reduceLeDiff, reduceCtorEq]
      repeat' apply And.intro
      all_goals first | exact True.intro | exact rfl | omega | with_reducible assumption | (simp only [List.length_set, List.length_append, List.length_replicate, List.length_cons, List.length_nil]; omega) | skip
      refine hL0 _ ⟨k + 1, by omega, by omega, ?_⟩
      (try rw [List.take_of_length_le (l := wonT (bmeans g) k) (by omega)])
      rw [wonT_s (by omega)]
      refine cov_of rfl ?_ ?_ ?_ <;> simp only [covS, covL, push_cast, ↓brB_true, ↓brB_false, ↓reduceIte, reduceMod, reduceMul, reduceDiv, reduceAdd, reduceSub, reduceEqDiff, Nat.reduceBEq, reduceLT, reduceLeDiff, reduceCtorEq]
      all_goals (try (by_cases h9 : (gf (bmeans g) k).num < 0 <;> simp [h9]; done))
    ·
      refine awp_exit ?_
      have hkk : k = (bmeans g).length := by omega
      subst hkk
      rw [wonT_all]
      (try simp only [AThen, ABlk, reduceIte, reduceEqDiff]); refine hK1 _ ?_
      refine awp_seq' fun K hK => ?_
      refine awp_region tyOk tyPos [] rfl ?_
      simp only [push_cast, ↓brB_true, ↓brB_false, ↓reduceIte, reduceMod, reduceMul, reduceDiv, reduceAdd, reduceSub, reduceEqDiff, Nat.reduceBEq, reduceLT, reduceLeDiff, reduceCtorEq]
      repeat' apply And.intro
      all_goals first | exact True.intro | exact rfl | omega | with_reducible assumption | (simp only [List.length_set, List.length_append, List.length_replicate, List.length_cons, List.length_nil]; omega) | skip
      all_goals first | (refine hK _ ?_; clear hK K) | (simp only [push_cast]; done)
      refine awp_ret ?_
      (try simp only [AThen, ABlk])
      refine ⟨Or.inl rfl, ?_⟩
      simp only [RetOk, push_cast, ↓brB_true, ↓brB_false, ↓reduceIte, reduceMod, reduceMul, reduceDiv, reduceAdd, reduceSub, reduceEqDiff, Nat.reduceBEq, reduceLT, reduceLeDiff, reduceCtorEq]
      unfold mwon
      first | rfl | exact ⟨rfl, by rw [List.length_map]⟩ | (rw [List.length_map]; done)
end Go.Proofs.Ytfipgnbpkbnalaa
