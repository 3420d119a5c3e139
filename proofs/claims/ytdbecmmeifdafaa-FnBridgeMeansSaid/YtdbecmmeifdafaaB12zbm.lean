/- the means of a game and of a plan: both sides -/
import Derived.Test.YtdbecmmeifdafaaB11zbm
import Derived.Test.YtdbecmmeifdafaaB9zbm
import Derived.Test.YtdbecmmeifdafaaB8zbm
import Derived.Test.YtdbecmmeifdafaaB7zbm
import Derived.Test.YtdbecmmeifdafaaB5zbm
import Derived.Test.YtdbecmmeifdafaaGEzbm
namespace Go.Proofs.Ytdbecmmeifdafaa
open Nat renaming reduceMod → zA, reduceMul → zB, reduceDiv → zC, reduceAdd → zD, reduceSub → zE, reduceEqDiff → zF, reduceBEq → zG, reduceLT → zH, reduceLeDiff → zI
open Go.RowKit
set_option linter.unusedVariables false
set_option linter.unusedSimpArgs false

def bmeans (g : Pa) : List Fr := if bridgeB g then meansR (bridgeW g) else []
theorem bmeans_no {g : Pa} (h : bridgeB g = false) : bmeans g = [] := by unfold bmeans; rw [h]; rfl
theorem bmeans_yes {g : Pa} (h : bridgeB g = true) : bmeans g = meansR (bridgeW g) := by unfold bmeans; rw [h]; rfl
def mwon (g : Pa) : List Int := (bmeans g).map fun f => if f.num < 0 then 1 else 0
def wonT (fs : List Fr) (k : Nat) : List Int := (fs.take k).map fun f => if f.num < 0 then 1 else 0
theorem wonT_len {fs : List Fr} {k : Nat} (h : k ≤ fs.length) : (wonT fs k).length = k := by unfold wonT; rw [List.length_map, List.length_take]; omega
theorem wonT_s {fs : List Fr} {k : Nat} (h : k < fs.length) : wonT fs (k + 1) = wonT fs k ++ [if (gf fs k).num < 0 then 1 else 0] := by
  unfold wonT
  rw [List.take_add_one, gf_lt h, List.map_append]
  rfl
theorem wonT_all (fs : List Fr) : wonT fs fs.length = fs.map fun f => if f.num < 0 then 1 else 0 := by unfold wonT; rw [List.take_length]
theorem mwon_no {g : Pa} (h : bridgeB g = false ∨ meanB (bridgeW g) = false) : mwon g = [] := by
  unfold mwon bmeans
  split
  · rename_i h1
    rcases h with h | h
    · rw [h] at h1; cases h1
    · rw [meansR_no h]; rfl
  · rfl
theorem mwon_yes {g : Pa} (h : bridgeB g = true) (h2 : meanB (bridgeW g) = true) : mwon g = (meansL (bridgeW g)).map fun f => if f.num < 0 then 1 else 0 := by unfold mwon; rw [bmeans_yes h, meansR_yes h2]
set_option maxRecDepth 20000 in
set_option maxHeartbeats 4000000 in
theorem BridgeMeansI_fn (g : Pa) (hg : g.Ln 1048576) : Fn Try.prog tyT 45 [.agg (dPa g)] [.c (.lst 50 (dFrs (bmeans g)))] := by
  have hbl := bridgeW_len hg
  have hA := BridgeOfI_fn g hg
  have hO := MeanOfI_fn (bridgeW g) hbl
  unfold dPa at hA ⊢
  unfold dWt at hA hO
  refine Fn_of (fn := Try.f45) (ts := [2]) Try.func45 (by kernel_rfl) rfl rfl (by rw [Try.ntmps45]; exact Nat.le_of_ble_eq_true rfl) rfl (by simp only [szA, List.mem_cons, List.not_mem_nil, or_false, forall_eq_or_imp, forall_eq, VT.cells, szL]; try decide) ?_
  rw [Try.ntmps45]
  simp only [push_cast, ↓brB_true, ↓brB_false, ↓reduceIte, zA, zB, zC, zD, zE, zF, zG, zH, zI, reduceCtorEq]
  refine awp_seq' fun K hK => ?_
  refine awp_region tyOk tyPos [] rfl ?_
  simp only [push_cast, ↓brB_true, ↓brB_false, ↓reduceIte, zA, zB, zC, zD, zE, zF, zG, zH, zI, reduceCtorEq]
  repeat' apply And.intro
  all_goals try exact gB
  all_goals first | (refine hK _ ?_; clear hK K) | (simp only [push_cast]; done)
  refine awp_seq' fun K hK => ?_
  refine awp_region tyOk tyPos [] rfl ?_
  all_goals refine aops_cut 2 fun K9 hK9 => ?_
  all_goals simp only [push_cast, ↓brB_true, ↓brB_false, ↓reduceIte, zA, zB, zC, zD, zE, zF, zG, zH, zI, reduceCtorEq]
  all_goals repeat' (first | (apply brB_mk <;> (intro hg; (try simp only [push_cast] at hg))) | (refine ⟨_, hA, ?_⟩; simp only [push_cast, ↓brB_true, ↓brB_false, ↓reduceIte, zA, zB, zC, zD, zE, zF, zG, zH, zI, reduceCtorEq]) | apply And.intro | (intro hg; (try simp only [push_cast] at hg)))
  all_goals try exact gA
  all_goals first | (refine hK9 _ ?_; clear hK9 K9) | (simp only [push_cast]; done)
  all_goals simp only [push_cast, ↓brB_true, ↓brB_false, ↓reduceIte, zA, zB, zC, zD, zE, zF, zG, zH, zI, reduceCtorEq]
  all_goals repeat' (first | (apply brB_mk <;> (intro hg; (try simp only [push_cast] at hg))) | (refine ⟨_, hA, ?_⟩; simp only [push_cast, ↓brB_true, ↓brB_false, ↓reduceIte, zA, zB, zC, zD, zE, zF, zG, zH, zI, reduceCtorEq]) | apply And.intro | (intro hg; (try simp only [push_cast] at hg)))
  all_goals try exact gA
  all_goals first | (refine hK _ ?_; clear hK K) | (simp only [push_cast]; done)
  refine awp_seq' fun K1 hK1 => ?_
  refine awp_seq' fun K hK => ?_
  refine awp_region tyOk tyPos [] rfl ?_
  simp only [push_cast, ↓brB_true, ↓brB_false, ↓reduceIte, zA, zB, zC, zD, zE, zF, zG, zH, zI, reduceCtorEq]
  repeat' apply And.intro
  all_goals try exact gB
  all_goals first | (refine hK _ ?_; clear hK K) | (simp only [push_cast]; done)
  refine awp_cond rfl (fun hc => ?_) (fun hc => ?_) <;> (try simp only [push_cast] at hc)
  ·
    refine awp_seq' fun K hK => ?_
    refine awp_region tyOk tyPos [] rfl ?_
    simp only [push_cast, ↓brB_true, ↓brB_false, ↓reduceIte, zA, zB, zC, zD, zE, zF, zG, zH, zI, reduceCtorEq]
    repeat' apply And.intro
    all_goals try exact gB
    all_goals first | (refine hK _ ?_; clear hK K) | (simp only [push_cast]; done)
    refine awp_ret ?_
    (try simp only [AThen, ABlk])
    refine ⟨Or.inl rfl, ?_⟩
    simp only [RetOk, push_cast, ↓brB_true, ↓brB_false, ↓reduceIte, zA, zB, zC, zD, zE, zF, zG, zH, zI, reduceCtorEq]
    rw [bmeans_no (by with_reducible assumption)]
    all_goals first | rfl | exact ⟨rfl, rfl⟩ | (simp [dI]; done)
  ·
    refine awp_skip ?_
    (try simp only [AThen, ABlk, reduceIte, zF]); refine hK1 _ ?_
    refine awp_seq' fun K hK => ?_
    refine awp_region tyOk tyPos [] rfl ?_
    all_goals refine aops_cut 2 fun K9 hK9 => ?_
    all_goals simp only [push_cast, ↓brB_true, ↓brB_false, ↓reduceIte, zA, zB, zC, zD, zE, zF, zG, zH, zI, reduceCtorEq]
    all_goals repeat' (first | (apply brB_mk <;> (intro hg; (try simp only [push_cast] at hg))) | (refine ⟨_, hO, ?_⟩; simp only [push_cast, ↓brB_true, ↓brB_false, ↓reduceIte, zA, zB, zC, zD, zE, zF, zG, zH, zI, reduceCtorEq]) | apply And.intro | (intro hg; (try simp only [push_cast] at hg)))
    all_goals try exact gA
    all_goals first | (refine hK9 _ ?_; clear hK9 K9) | (simp only [push_cast]; done)
    all_goals simp only [push_cast, ↓brB_true, ↓brB_false, ↓reduceIte, zA, zB, zC, zD, zE, zF, zG, zH, zI, reduceCtorEq]
    all_goals repeat' (first | (apply brB_mk <;> (intro hg; (try simp only [push_cast] at hg))) | (refine ⟨_, hO, ?_⟩; simp only [push_cast, ↓brB_true, ↓brB_false, ↓reduceIte, zA, zB, zC, zD, zE, zF, zG, zH, zI, reduceCtorEq]) | apply And.intro | (intro hg; (try simp only [push_cast] at hg)))
    all_goals try exact gA
    all_goals first | (refine hK _ ?_; clear hK K) | (simp only [push_cast]; done)
    refine awp_ret ?_
    (try simp only [AThen, ABlk])
    refine ⟨Or.inl rfl, ?_⟩
    simp only [RetOk, push_cast, ↓brB_true, ↓brB_false, ↓reduceIte, zA, zB, zC, zD, zE, zF, zG, zH, zI, reduceCtorEq]
    rw [bmeans_yes (by with_reducible assumption)]
    all_goals first | rfl | exact ⟨rfl, rfl⟩ | (simp [dI]; done)
set_option maxRecDepth 20000 in
set_option maxHeartbeats 4000000 in
theorem l1Flag_fn (b : Bool) : Fn Try.prog tyT 149 [.c (.bool b)] [.c (.int .i64 (if b then 1 else 0))] := by
  refine Fn_of (fn := Try.f149) (ts := [2]) Try.func149 (by kernel_rfl) rfl rfl (by rw [Try.ntmps149]; exact Nat.le_of_ble_eq_true rfl) rfl (by simp only [szA, List.mem_cons, List.not_mem_nil, or_false, forall_eq_or_imp, forall_eq, VT.cells, szL]; try decide) ?_
  rw [Try.ntmps149]
  simp only [push_cast, ↓brB_true, ↓brB_false, ↓reduceIte, zA, zB, zC, zD, zE, zF, zG, zH, zI, reduceCtorEq]
  refine awp_seq' fun K hK => ?_
  refine awp_region tyOk tyPos [] rfl ?_
  simp only [push_cast, ↓brB_true, ↓brB_false, ↓reduceIte, zA, zB, zC, zD, zE, zF, zG, zH, zI, reduceCtorEq]
  repeat' apply And.intro
  all_goals try exact gB
  all_goals first | (refine hK _ ?_; clear hK K) | (simp only [push_cast]; done)
  refine awp_seq' fun K1 hK1 => ?_
  refine awp_seq' fun K hK => ?_
  refine awp_region tyOk tyPos [] rfl ?_
  simp only [push_cast, ↓brB_true, ↓brB_false, ↓reduceIte, zA, zB, zC, zD, zE, zF, zG, zH, zI, reduceCtorEq]
  repeat' apply And.intro
  all_goals try exact gB
  all_goals first | (refine hK _ ?_; clear hK K) | (simp only [push_cast]; done)
  refine awp_cond rfl (fun hc => ?_) (fun hc => ?_) <;> (try simp only [push_cast] at hc)
  ·
    refine awp_seq' fun K hK => ?_
    refine awp_region tyOk tyPos [] rfl ?_
    simp only [push_cast, ↓brB_true, ↓brB_false, ↓reduceIte, zA, zB, zC, zD, zE, zF, zG, zH, zI, reduceCtorEq]
    repeat' apply And.intro
    all_goals try exact gB
    all_goals first | (refine hK _ ?_; clear hK K) | (simp only [push_cast]; done)
    refine awp_ret ?_
    (try simp only [AThen, ABlk])
    refine ⟨Or.inl rfl, ?_⟩
    simp only [RetOk, push_cast, ↓brB_true, ↓brB_false, ↓reduceIte, zA, zB, zC, zD, zE, zF, zG, zH, zI, reduceCtorEq]
    rw [show b = true from by with_reducible assumption]; rfl
  ·
    refine awp_skip ?_
    (try simp only [AThen, ABlk, reduceIte, zF]); refine hK1 _ ?_
    refine awp_seq' fun K hK => ?_
    refine awp_region tyOk tyPos [] rfl ?_
    simp only [push_cast, ↓brB_true, ↓brB_false, ↓reduceIte, zA, zB, zC, zD, zE, zF, zG, zH, zI, reduceCtorEq]
    repeat' apply And.intro
    all_goals try exact gB
    all_goals first | (refine hK _ ?_; clear hK K) | (simp only [push_cast]; done)
    refine awp_ret ?_
    (try simp only [AThen, ABlk])
    refine ⟨Or.inl rfl, ?_⟩
    simp only [RetOk, push_cast, ↓brB_true, ↓brB_false, ↓reduceIte, zA, zB, zC, zD, zE, zF, zG, zH, zI, reduceCtorEq]
    rw [show b = false from by with_reducible assumption]; rfl
set_option maxRecDepth 20000 in
set_option maxHeartbeats 4000000 in
theorem MeanWonI_fn (g : Pa) (hg : g.Ln 1048576) : Fn Try.prog tyT 46 [.agg (dPa g)] [.c (DI (mwon g))] := by
  have hbl := bridgeW_len hg
  have hA := BridgeOfI_fn g hg
  have hM := isMean_fn (bridgeW g) hbl
  have hO := fun h => meanOf_fn (bridgeW g) hbl (wmn_of h)
  unfold dPa at hA ⊢
  unfold dWt at hA hM hO
  refine Fn_of (fn := Try.f46) (ts := [2]) Try.func46 (by kernel_rfl) rfl rfl (by rw [Try.ntmps46]; exact Nat.le_of_ble_eq_true rfl) rfl (by simp only [szA, List.mem_cons, List.not_mem_nil, or_false, forall_eq_or_imp, forall_eq, VT.cells, szL]; try decide) ?_
  rw [Try.ntmps46]
  simp only [push_cast, ↓brB_true, ↓brB_false, ↓reduceIte, zA, zB, zC, zD, zE, zF, zG, zH, zI, reduceCtorEq]
  refine awp_seq' fun K hK => ?_
  refine awp_region tyOk tyPos [] rfl ?_
  simp only [push_cast, ↓brB_true, ↓brB_false, ↓reduceIte, zA, zB, zC, zD, zE, zF, zG, zH, zI, reduceCtorEq]
  repeat' apply And.intro
  all_goals try exact gB
  all_goals first | (refine hK _ ?_; clear hK K) | (simp only [push_cast]; done)
  refine awp_seq' fun K hK => ?_
  refine awp_region tyOk tyPos [] rfl ?_
  all_goals refine aops_cut 2 fun K9 hK9 => ?_
  all_goals simp only [push_cast, ↓brB_true, ↓brB_false, ↓reduceIte, zA, zB, zC, zD, zE, zF, zG, zH, zI, reduceCtorEq]
  all_goals repeat' (first | (apply brB_mk <;> (intro hg; (try simp only [push_cast] at hg))) | (refine ⟨_, hA, ?_⟩; simp only [push_cast, ↓brB_true, ↓brB_false, ↓reduceIte, zA, zB, zC, zD, zE, zF, zG, zH, zI, reduceCtorEq]) | apply And.intro | (intro hg; (try simp only [push_cast] at hg)))
  all_goals try exact gA
  all_goals first | (refine hK9 _ ?_; clear hK9 K9) | (simp only [push_cast]; done)
  all_goals simp only [push_cast, ↓brB_true, ↓brB_false, ↓reduceIte, zA, zB, zC, zD, zE, zF, zG, zH, zI, reduceCtorEq]
  all_goals repeat' (first | (apply brB_mk <;> (intro hg; (try simp only [push_cast] at hg))) | (refine ⟨_, hA, ?_⟩; simp only [push_cast, ↓brB_true, ↓brB_false, ↓reduceIte, zA, zB, zC, zD, zE, zF, zG, zH, zI, reduceCtorEq]) | apply And.intro | (intro hg; (try simp only [push_cast] at hg)))
  all_goals try exact gA
  all_goals first | (refine hK _ ?_; clear hK K) | (simp only [push_cast]; done)
  refine awp_seq' fun K1 hK1 => ?_
  refine awp_seq' fun K hK => ?_
  refine awp_regionN false tyOk tyPos ?_ rfl ?_
  · kernel_rfl
  all_goals refine seqE_cut 5 fun K9 hK9 => ?_
  all_goals simp only [push_cast, ↓brB_true, ↓brB_false, ↓reduceIte, zA, zB, zC, zD, zE, zF, zG, zH, zI, reduceCtorEq]
  all_goals repeat' (first | (apply brB_mk <;> (intro hg; (try simp only [push_cast] at hg))) | (refine ⟨_, hM, ?_⟩; simp only [push_cast, ↓brB_true, ↓brB_false, ↓reduceIte, zA, zB, zC, zD, zE, zF, zG, zH, zI, reduceCtorEq]) | apply And.intro | (intro hg; (try simp only [push_cast] at hg)))
  all_goals try exact gA
  all_goals first | (refine hK9 _ ?_; clear hK9 K9) | (simp only [push_cast]; done)
  all_goals simp only [push_cast, ↓brB_true, ↓brB_false, ↓reduceIte, zA, zB, zC, zD, zE, zF, zG, zH, zI, reduceCtorEq]
  all_goals repeat' (first | (apply brB_mk <;> (intro hg; (try simp only [push_cast] at hg))) | (refine ⟨_, hM, ?_⟩; simp only [push_cast, ↓brB_true, ↓brB_false, ↓reduceIte, zA, zB, zC, zD, zE, zF, zG, zH, zI, reduceCtorEq]) | apply And.intro | (intro hg; (try simp only [push_cast] at hg)))
  all_goals try exact gA
  all_goals first | (refine hK _ ?_; clear hK K) | (simp only [push_cast]; done)
  all_goals refine awp_cond rfl (fun hc => ?_) (fun hc => ?_)
  all_goals (first | (cases hc; done) | skip)
  all_goals (try simp only [push_cast] at hc)
  all_goals try (
      refine awp_seq' fun K hK => ?_
      refine awp_region tyOk tyPos [] rfl ?_
      simp only [push_cast, ↓brB_true, ↓brB_false, ↓reduceIte, zA, zB, zC, zD, zE, zF, zG, zH, zI, reduceCtorEq]
      repeat' apply And.intro
      all_goals try exact gB
      all_goals first | (refine hK _ ?_; clear hK K) | (simp only [push_cast]; done)
      refine awp_ret ?_
      (try simp only [AThen, ABlk])
      refine ⟨Or.inl rfl, ?_⟩
      simp only [RetOk, push_cast, ↓brB_true, ↓brB_false, ↓reduceIte, zA, zB, zC, zD, zE, zF, zG, zH, zI, reduceCtorEq]
      rw [mwon_no (by first | exact .inl (by with_reducible assumption) | exact .inr (by with_reducible assumption))]
      all_goals first | rfl | exact ⟨rfl, rfl⟩ | (simp [dI]; done)
      done)
  refine awp_skip ?_
  (try simp only [AThen, ABlk, reduceIte, zF]); refine hK1 _ ?_
  have hbb : bridgeB g = true := by with_reducible assumption
  have hmb : meanB (bridgeW g) = true := by with_reducible assumption
  have hm8 := (wmn_of hmb).n8
  have hml := meansL_len (bridgeW g)
  refine awp_seq' fun K hK => ?_
  refine awp_region tyOk tyPos [] rfl ?_
  simp only [push_cast, ↓brB_true, ↓brB_false, ↓reduceIte, zA, zB, zC, zD, zE, zF, zG, zH, zI, reduceCtorEq]
  repeat' apply And.intro
  all_goals try exact gB
  all_goals first | (refine hK _ ?_; clear hK K) | (simp only [push_cast]; done)
  refine awp_seq' fun K2 hK2 => ?_
  refine awp_seq' fun K hK => ?_
  refine awp_region tyOk tyPos [] rfl ?_
  all_goals refine aops_cut 2 fun K9 hK9 => ?_
  all_goals simp only [push_cast, ↓brB_true, ↓brB_false, ↓reduceIte, zA, zB, zC, zD, zE, zF, zG, zH, zI, reduceCtorEq]
  all_goals repeat' (first | (apply brB_mk <;> (intro hg; (try simp only [push_cast] at hg))) | (refine ⟨_, hO hmb, ?_⟩; simp only [push_cast, ↓brB_true, ↓brB_false, ↓reduceIte, zA, zB, zC, zD, zE, zF, zG, zH, zI, reduceCtorEq]) | apply And.intro | (intro hg; (try simp only [push_cast] at hg)))
  all_goals try exact gA
  all_goals first | (refine hK9 _ ?_; clear hK9 K9) | (simp only [push_cast]; done)
  all_goals simp only [push_cast, ↓brB_true, ↓brB_false, ↓reduceIte, zA, zB, zC, zD, zE, zF, zG, zH, zI, reduceCtorEq]
  all_goals repeat' (first | (apply brB_mk <;> (intro hg; (try simp only [push_cast] at hg))) | (refine ⟨_, hO hmb, ?_⟩; simp only [push_cast, ↓brB_true, ↓brB_false, ↓reduceIte, zA, zB, zC, zD, zE, zF, zG, zH, zI, reduceCtorEq]) | apply And.intro | (intro hg; (try simp only [push_cast] at hg)))
  all_goals try exact gA
  all_goals first | (refine hK _ ?_; clear hK K) | (simp only [push_cast]; done)
  refine awp_block ?_
  refine awp_loopU [3,5,7,15,24,25,26,27,28,29,30,31,32,33,34,35,36,37] [80] (fun (k : Nat) => [(24, .int .i64 k), (5, .sl 80 [] 0 k 2)]) (fun k => []) (fun k => [(80, ⟨.ex, 2, dI (wonT (meansL (bridgeW g)) k), none⟩)]) (fun k => k ≤ (meansL (bridgeW g)).length) (fun k => (meansL (bridgeW g)).length - k) 0 ?_ (by omega) ?_
  ·
    rw [show dI (wonT (meansL (bridgeW g)) 0) = [] from rfl]
    refine cov_of rfl ?_ ?_ ?_ <;> simp only [covS, covL, push_cast, ↓brB_true, ↓brB_false, ↓reduceIte, zA, zB, zC, zD, zE, zF, zG, zH, zI, reduceCtorEq]
  · rintro k hk KL0 hL0
    have hwl := wonT_len hk
    simp only [push_cast, ↓brB_true, ↓brB_false, ↓reduceIte, zA, zB, zC, zD, zE, zF, zG, zH, zI, reduceCtorEq]
    refine awp_seq' fun K hK => ?_
    refine awp_region tyOk tyPos [] rfl ?_
    simp only [push_cast, ↓brB_true, ↓brB_false, ↓reduceIte, zA, zB, zC, zD, zE, zF, zG, zH, zI, reduceCtorEq]
    repeat' apply And.intro
    all_goals try exact gB
    all_goals first | (refine hK _ ?_; clear hK K) | (simp only [push_cast]; done)
    refine awp_seq' fun K3 hK3 => ?_
    refine awp_cond rfl (fun hc => ?_) (fun hc => ?_) <;> (try simp only [push_cast] at hc)
    ·
      refine awp_skip ?_
      (try simp only [AThen, ABlk, reduceIte, zF]); refine hK3 _ ?_
      refine awp_seq' fun K4 hK4 => ?_
      refine awp_block ?_
      refine awp_seq' fun K hK => ?_
      refine awp_region tyOk tyPos [] rfl ?_
      simp only [push_cast, ↓brB_true, ↓brB_false, ↓reduceIte, zA, zB, zC, zD, zE, zF, zG, zH, zI, reduceCtorEq]
      repeat' apply And.intro
      all_goals try exact gB
      all_goals first | (refine hK _ ?_; clear hK K) | (simp only [push_cast]; done)
      refine awp_seq' fun K hK => ?_
      refine awp_region tyOk tyPos [] rfl ?_
      simp only [push_cast, ↓brB_true, ↓brB_false, ↓reduceIte, zA, zB, zC, zD, zE, zF, zG, zH, zI, reduceCtorEq]
      repeat' apply And.intro
      all_goals try exact gB
      all_goals first | (refine hK _ ?_; clear hK K) | (simp only [push_cast]; done)
      refine awp_cond rfl (fun hc => ?_) (fun hc => ?_) <;> (try simp only [push_cast] at hc)
      ·
        refine awp_region tyOk tyPos [] rfl ?_
        simp only [push_cast, ↓brB_true, ↓brB_false, ↓reduceIte, zA, zB, zC, zD, zE, zF, zG, zH, zI, reduceCtorEq]
        repeat' apply And.intro
        all_goals try exact gB
        (try simp only [AThen, ABlk, reduceIte, zF]); refine hK4 _ ?_
        refine awp_region tyOk tyPos [] rfl ?_
        simp only [push_cast, ↓brB_true, ↓brB_false, ↓reduceIte, zA, zB, zC, zD, zE, zF, zG, zH, zI, reduceCtorEq]
        repeat' apply And.intro
        all_goals try exact gB
        refine hL0 _ ⟨k + 1, by omega, by omega, ?_⟩
        (try rw [List.take_of_length_le (l := wonT (meansL (bridgeW g)) k) (by omega)])
        rw [wonT_s (by omega), if_neg (by omega)]
        refine cov_of rfl ?_ ?_ ?_ <;> simp only [covS, covL, push_cast, ↓brB_true, ↓brB_false, ↓reduceIte, zA, zB, zC, zD, zE, zF, zG, zH, zI, reduceCtorEq]
      ·
        refine awp_region tyOk tyPos [] rfl ?_
        simp only [push_cast, ↓brB_true, ↓brB_false, ↓reduceIte, zA, zB, zC, zD, zE, zF, zG, zH, zI, reduceCtorEq]
        repeat' apply And.intro
        all_goals try exact gB
        (try simp only [AThen, ABlk, reduceIte, zF]); refine hK4 _ ?_
        refine awp_region tyOk tyPos [] rfl ?_
        simp only [push_cast, ↓brB_true, ↓brB_false, ↓reduceIte, zA, zB, zC, zD, zE, zF, zG, zH, zI, reduceCtorEq]
        repeat' apply And.intro
        all_goals try exact gB
        refine hL0 _ ⟨k + 1, by omega, by omega, ?_⟩
        (try rw [List.take_of_length_le (l := wonT (meansL (bridgeW g)) k) (by omega)])
        rw [wonT_s (by omega), if_pos (by omega)]
        refine cov_of rfl ?_ ?_ ?_ <;> simp only [covS, covL, push_cast, ↓brB_true, ↓brB_false, ↓reduceIte, zA, zB, zC, zD, zE, zF, zG, zH, zI, reduceCtorEq]
    ·
      refine awp_exit ?_
      have hkk : k = (meansL (bridgeW g)).length := by omega
      subst hkk
      rw [wonT_all]
      (try simp only [AThen, ABlk, reduceIte, zF]); refine hK2 _ ?_
      refine awp_seq' fun K hK => ?_
      refine awp_region tyOk tyPos [] rfl ?_
      simp only [push_cast, ↓brB_true, ↓brB_false, ↓reduceIte, zA, zB, zC, zD, zE, zF, zG, zH, zI, reduceCtorEq]
      repeat' apply And.intro
      all_goals try exact gB
      all_goals first | (refine hK _ ?_; clear hK K) | (simp only [push_cast]; done)
      refine awp_ret ?_
      (try simp only [AThen, ABlk])
      refine ⟨Or.inl rfl, ?_⟩
      simp only [RetOk, push_cast, ↓brB_true, ↓brB_false, ↓reduceIte, zA, zB, zC, zD, zE, zF, zG, zH, zI, reduceCtorEq]
      rw [mwon_yes hbb hmb]
      first | rfl | exact ⟨rfl, by rw [List.length_map]⟩ | (rw [List.length_map]; done)
end Go.Proofs.Ytdbecmmeifdafaa

namespace Go.Proofs.Ytdbecmmeifdafaa
open Go.RowKit
set_option linter.unusedVariables false
set_option linter.unusedSimpArgs false
theorem edB_no {g : Pa} {v : Nat} (hv : v < g.a.owner.length) (u : Int) : edB (l7G g (noP g.a.owner.length)) v u = true := by
  unfold edB
  refine decide_eq_true (.inl ?_)
  show gi (noP g.a.owner.length) (Int.toNat v) < 0
  rw [Int.toNat_natCast, noP_gi _ _ hv]
  decide
theorem pgL_eq (g : Pa) : pgL (l7G g (noP g.a.owner.length)) = pgOf g := by
  unfold pgL pgOf
  congr 1
  funext v u
  refine propext ⟨?_, ?_⟩
  · rintro ⟨h1, j, h2, h3, -⟩
    exact ⟨h1, j, h2, h3⟩
  · rintro ⟨h1, j, h2, h3⟩
    exact ⟨h1, j, h2, h3, edB_no h1 _⟩
theorem wonB_ok {g : Pa} (h : parityB g = true) :
    (∃ s, Wins (pgOf g) 0 (fun v => v < g.a.owner.length) (fun v => v < g.a.owner.length ∧ gb (wonB g) v = true) s) ∧ ∃ s, Wins (pgOf g) 1 (fun v => v < g.a.owner.length) (fun v => v < g.a.owner.length ∧ gb (wonB g) v = false) s := by
  obtain ⟨ha, hpl, hpr⟩ := parityB_facts h
  have hD : ∀ v, inD g.a.owner.length (allT g.a.owner.length) v ↔ v < g.a.owner.length := fun v => ⟨fun h => h.1, fun h => ⟨h, allT_gb h⟩⟩
  have hlive : Live (pgL (l7G g (noP g.a.owner.length))) (inD g.a.owner.length (allT g.a.owner.length)) := fun v hv => by
    have h1 := (arenaB_at ha hv.1).2.2
    have h2 := setB_at h1.2.2 (j := 0) (by omega)
    rw [pgL_eq]
    exact ⟨(gi (gl g.a.next v) 0).toNat, ⟨hv.1, 0, by omega, rfl⟩, (hD _).2 (by omega)⟩
  obtain ⟨⟨s, h0⟩, ⟨t, h1⟩⟩ := winL_ok (l7G_ok h (noP_len _)) (g.a.owner.length + 1) (allT g.a.owner.length) (allT_len _) (Nat.lt_succ_of_le (cntB_top _ _)) hlive
  rw [pgL_eq] at h0 h1
  exact ⟨⟨s, wins_cong h0 hD fun v => by rw [hD v]; exact Iff.rfl⟩, ⟨t, wins_cong h1 hD fun v => by rw [hD v]; exact Iff.rfl⟩⟩
theorem won_sign {g : Pa} (h : bridgeB g = true) {v : Nat} (hv : v < g.a.owner.length) : (gi (wonG g) v = 0 ∧ 0 < (valF (bridgeW g) v).num) ∨ (gi (wonG g) v = 1 ∧ (valF (bridgeW g) v).num < 0) := by
  obtain ⟨⟨s, h0⟩, ⟨t, h1⟩⟩ := wonB_ok (bridge_facts h).1
  have hb := bridge_val h h0 h1 hv
  rw [wonG_gi hv]
  cases hw : gb (wonB g) v
  · exact .inr ⟨rfl, hb.2 ⟨hv, hw⟩⟩
  · exact .inl ⟨rfl, hb.1 ⟨hv, hw⟩⟩
theorem bm_law {g : Pa} (h : bridgeB g = true) (h2 : meanB (bridgeW g) = true) : (bmeans g).length = g.a.owner.length ∧ mwon g = wonG g ∧ ∀ v, v < g.a.owner.length → ¬ (gf (bmeans g) v).num = 0 := by
  have hlen : (bridgeW g).a.owner.length = g.a.owner.length := by rw [bridgeW_yes h]
  have hml : (meansL (bridgeW g)).length = g.a.owner.length := by rw [meansL_len, hlen]
  rw [bmeans_yes h, meansR_yes h2]
  refine ⟨hml, ?_, fun v hv => ?_⟩
  · rw [mwon_yes h h2]
    refine List.ext_getElem? fun v => ?_
    by_cases hv : v < g.a.owner.length
    · have e1 : (meansL (bridgeW g))[v]? = some (gf (meansL (bridgeW g)) v) := gf_lt (by omega)
      rw [List.getElem?_map, e1, gi_lt (by rw [wonG_len]; exact hv), gf_means (by omega)]
      simp only [Option.map_some, Option.some.injEq]
      have := won_sign h hv
      split <;> omega
    · rw [List.getElem?_eq_none (by rw [List.length_map]; omega), List.getElem?_eq_none (by rw [wonG_len]; omega)]
  · rw [gf_means (by omega)]
    have := won_sign h hv
    omega
end Go.Proofs.Ytdbecmmeifdafaa

namespace Go.Proofs.Ytdbecmmeifdafaa
open Nat renaming reduceMod → zA, reduceMul → zB, reduceDiv → zC, reduceAdd → zD, reduceSub → zE, reduceEqDiff → zF, reduceBEq → zG, reduceLT → zH, reduceLeDiff → zI
open Go.RowKit
set_option linter.unusedVariables false
set_option linter.unusedSimpArgs false

set_option maxRecDepth 20000 in
set_option maxHeartbeats 8000000 in
theorem l7Win_step (x : L7) (inn : List Bool) (hx : x.Ok inn.length) (top who : Int) (hT : topK x inn inn.length = top) (hW : ∀ _ : Unit, 0 ≤ top → Int.tmod top 2 = who ∧ 0 ≤ who ∧ who ≤ 1) (goal att rest low lost away rest2 again res : List Bool) (hG : mapB inn.length (goalB x inn top) = goal) (hA : attB x inn.length inn who goal = att) (hR : lessL inn att = rest) (hLo : ∀ _ : Unit, low.length = inn.length) (hL : mapB inn.length (lostB rest low who) = lost) (hA2 : attB x inn.length inn (1 - who) lost = away) (hR2 : lessL inn away = rest2) (hLa : ∀ _ : Unit, again.length = inn.length) (hF1 : ∀ _ : Unit, 0 ≤ top → Fn Try.prog tyT 147 [.agg (dL7 x), .c (.lst 4 (dB rest))] [.c (.lst 4 (dB low))]) (hF2 : ∀ _ : Unit, 0 ≤ top → anyB lost inn.length = true → Fn Try.prog tyT 147 [.agg (dL7 x), .c (.lst 4 (dB rest2))] [.c (.lst 4 (dB again))]) (hres : ∀ _ : Unit, (top < 0 → res = List.replicate inn.length false) ∧ (0 ≤ top → anyB lost inn.length = false → res = mapB inn.length (winA inn who)) ∧ (0 ≤ top → anyB lost inn.length = true → res = mapB inn.length (winB again away who))) : Fn Try.prog tyT 147 [.agg (dL7 x), .c (.lst 4 (dB inn))] [.c (.lst 4 (dB res))] := by
  have hn1 := hx.hn
  have hn3 := hx.hp
  have hgl : goal.length = inn.length := by rw [← hG]; exact mapB_len _ _
  have hal : att.length = inn.length := by rw [← hA]; exact attB_len _ _ _ _ _
  have hrl : rest.length = inn.length := by rw [← hR]; simp [lessL]
  have hll : lost.length = inn.length := by rw [← hL]; exact mapB_len _ _
  have hwl : away.length = inn.length := by rw [← hA2]; exact attB_len _ _ _ _ _
  have hsl : rest2.length = inn.length := by rw [← hR2]; simp [lessL]
  have hTp := l7Top_fn x inn.length hx inn rfl
  rw [hT] at hTp
  have hAt := l7Attract_fn x inn hx who goal hgl
  rw [hA, ← List.take_of_length_le (l := goal) (i := inn.length) (by omega)] at hAt
  have hLs := l7Less_fn inn att hn1 hal
  rw [hR] at hLs
  have hAu := l7Attract_fn x inn hx (1 - who) lost hll
  rw [hA2, ← List.take_of_length_le (l := lost) (i := inn.length) (by omega)] at hAu
  have hLu := l7Less_fn inn away hn1 hwl
  rw [hR2] at hLu
  unfold dL7 at hTp hAt hAu hF1 hF2 ⊢
  have htr := topK_rg hx inn inn.length (by omega)
  rw [hT] at htr
  clear hT
  replace hrl : ∀ _ : Unit, rest.length = inn.length := fun _ => hrl
  replace hwl : ∀ _ : Unit, away.length = inn.length := fun _ => hwl
  clear hgl hal hll hsl
  refine Fn_of (fn := Try.f147) (ts := [4]) Try.func147 (by kernel_rfl) rfl rfl (by rw [Try.ntmps147]; exact Nat.le_of_ble_eq_true rfl) rfl (by simp only [szA, List.mem_cons, List.not_mem_nil, or_false, forall_eq_or_imp, forall_eq, VT.cells, szL]; try decide) ?_
  rw [Try.ntmps147]
  simp only [push_cast, ↓brB_true, ↓brB_false, ↓reduceIte, zA, zB, zC, zD, zE, zF, zG, zH, zI, reduceCtorEq]
  refine awp_seq' fun K hK => ?_
  refine awp_region tyOk tyPos [] rfl ?_
  simp only [push_cast, ↓brB_true, ↓brB_false, ↓reduceIte, zA, zB, zC, zD, zE, zF, zG, zH, zI, reduceCtorEq]
  repeat' apply And.intro
  all_goals try exact gB
  all_goals first | (refine hK _ ?_; clear hK K) | (simp only [push_cast]; done)
  refine awp_seq' fun K hK => ?_
  refine awp_region tyOk tyPos [] rfl ?_
  all_goals refine aops_cut 3 fun K9 hK9 => ?_
  all_goals simp only [push_cast, ↓brB_true, ↓brB_false, ↓reduceIte, zA, zB, zC, zD, zE, zF, zG, zH, zI, reduceCtorEq]
  all_goals repeat' (first | (apply brB_mk <;> (intro hg; (try simp only [push_cast] at hg))) | (refine ⟨_, hTp, ?_⟩; simp only [push_cast, ↓brB_true, ↓brB_false, ↓reduceIte, zA, zB, zC, zD, zE, zF, zG, zH, zI, reduceCtorEq]) | apply And.intro | (intro hg; (try simp only [push_cast] at hg)))
  all_goals try exact gA
  all_goals first | (refine hK9 _ ?_; clear hK9 K9) | (simp only [push_cast]; done)
  all_goals simp only [push_cast, ↓brB_true, ↓brB_false, ↓reduceIte, zA, zB, zC, zD, zE, zF, zG, zH, zI, reduceCtorEq]
  all_goals repeat' (first | (apply brB_mk <;> (intro hg; (try simp only [push_cast] at hg))) | (refine ⟨_, hTp, ?_⟩; simp only [push_cast, ↓brB_true, ↓brB_false, ↓reduceIte, zA, zB, zC, zD, zE, zF, zG, zH, zI, reduceCtorEq]) | apply And.intro | (intro hg; (try simp only [push_cast] at hg)))
  all_goals try exact gA
  all_goals first | (refine hK _ ?_; clear hK K) | (simp only [push_cast]; done)
  refine awp_seq' fun K hK => ?_
  refine awp_region tyOk tyPos [] rfl ?_
  simp only [push_cast, ↓brB_true, ↓brB_false, ↓reduceIte, zA, zB, zC, zD, zE, zF, zG, zH, zI, reduceCtorEq]
  repeat' apply And.intro
  all_goals try exact gB
  all_goals first | (refine hK _ ?_; clear hK K) | (simp only [push_cast]; done)
  refine awp_seq' fun K1 hK1 => ?_
  refine awp_seq' fun K hK => ?_
  refine awp_region tyOk tyPos [] rfl ?_
  simp only [push_cast, ↓brB_true, ↓brB_false, ↓reduceIte, zA, zB, zC, zD, zE, zF, zG, zH, zI, reduceCtorEq]
  repeat' apply And.intro
  all_goals try exact gB
  all_goals first | (refine hK _ ?_; clear hK K) | (simp only [push_cast]; done)
  refine awp_cond rfl (fun hc => ?_) (fun hc => ?_) <;> (try simp only [push_cast] at hc)
  ·
    have hr9 := (hres ()).1 (by omega)
    subst hr9
    refine awp_seq' fun K hK => ?_
    refine awp_region tyOk tyPos [] rfl ?_
    simp only [push_cast, ↓brB_true, ↓brB_false, ↓reduceIte, zA, zB, zC, zD, zE, zF, zG, zH, zI, reduceCtorEq]
    repeat' apply And.intro
    all_goals try exact gB
    all_goals first | (refine hK _ ?_; clear hK K) | (simp only [push_cast]; done)
    refine awp_ret ?_
    (try simp only [AThen, ABlk])
    refine ⟨Or.inl rfl, ?_⟩
    simp only [RetOk, push_cast, ↓brB_true, ↓brB_false, ↓reduceIte, zA, zB, zC, zD, zE, zF, zG, zH, zI, reduceCtorEq]
    all_goals first | rfl | exact ⟨rfl, by simp⟩ | (simp; done)
  ·
    refine awp_skip ?_
    (try simp only [AThen, ABlk, reduceIte, zF]); refine hK1 _ ?_
    refine awp_seq' fun K hK => ?_
    refine awp_region tyOk tyPos [] rfl ?_
    simp only [push_cast, ↓brB_true, ↓brB_false, ↓reduceIte, zA, zB, zC, zD, zE, zF, zG, zH, zI, reduceCtorEq]
    repeat' apply And.intro
    all_goals try exact gB
    all_goals first | (refine hK _ ?_; clear hK K) | (simp only [push_cast]; done)
    rw [(hW () (by omega)).1]
    have hwr := (hW () (by omega)).2
    refine awp_seq' fun K hK => ?_
    refine awp_region tyOk tyPos [] rfl ?_
    simp only [push_cast, ↓brB_true, ↓brB_false, ↓reduceIte, zA, zB, zC, zD, zE, zF, zG, zH, zI, reduceCtorEq]
    repeat' apply And.intro
    all_goals try exact gB
    all_goals first | (refine hK _ ?_; clear hK K) | (simp only [push_cast]; done)
    refine awp_seq' fun K2 hK2 => ?_
    refine awp_seq' fun K hK => ?_
    refine awp_region tyOk tyPos [] rfl ?_
    simp only [push_cast, ↓brB_true, ↓brB_false, ↓reduceIte, zA, zB, zC, zD, zE, zF, zG, zH, zI, reduceCtorEq]
    repeat' apply And.intro
    all_goals try exact gB
    all_goals first | (refine hK _ ?_; clear hK K) | (simp only [push_cast]; done)
    refine awp_block ?_
    refine awp_loopU [9,33,34,35,36,37,38,39,40,41,42,43,44,45,46,47,48,49,50,51,52,53,54] [128] (fun (k : Nat) => [(9, .int .i64 k), (8, .sl 128 [] 0 inn.length 4)]) (fun k => []) (fun k => [(128, ⟨.ex, 4, dB (mkB inn.length (goalB x inn top) k), none⟩)]) (fun k => k ≤ inn.length) (fun k => inn.length - k) 0 ?_ (Nat.zero_le _) ?_
    ·
      rw [mkB_0]
      refine cov_of rfl ?_ ?_ ?_ <;> simp only [covS, covL, push_cast, ↓brB_true, ↓brB_false, ↓reduceIte, zA, zB, zC, zD, zE, zF, zG, zH, zI, reduceCtorEq]
    · rintro k hk KL0 hL0
      have hml := mkB_len (f := goalB x inn top) hk
      simp only [push_cast, ↓brB_true, ↓brB_false, ↓reduceIte, zA, zB, zC, zD, zE, zF, zG, zH, zI, reduceCtorEq]
      refine awp_seq' fun K3 hK3 => ?_
      refine awp_seq' fun K hK => ?_
      refine awp_region tyOk tyPos [] rfl ?_
      simp only [push_cast, ↓brB_true, ↓brB_false, ↓reduceIte, zA, zB, zC, zD, zE, zF, zG, zH, zI, reduceCtorEq]
      repeat' apply And.intro
      all_goals try exact gB
      all_goals first | (refine hK _ ?_; clear hK K) | (simp only [push_cast]; done)
      refine awp_cond rfl (fun hc => ?_) (fun hc => ?_) <;> (try simp only [push_cast] at hc)
      ·
        refine awp_skip ?_
        (try simp only [AThen, ABlk, reduceIte, zF]); refine hK3 _ ?_
        refine awp_seq' fun K4 hK4 => ?_
        refine awp_block ?_
        refine awp_regionN false tyOk tyPos ?_ rfl ?_
        · kernel_rfl
        all_goals simp only [push_cast, ↓brB_true, ↓brB_false, ↓reduceIte, zA, zB, zC, zD, zE, zF, zG, zH, zI, reduceCtorEq]
        all_goals repeat' (first | (apply brB_mk <;> (intro hg; (try simp only [push_cast] at hg))) | apply And.intro | (intro hg; (try simp only [push_cast] at hg)))
        all_goals try exact gA
        all_goals (
            (try simp only [AThen, ABlk, reduceIte, zF]); refine hK4 _ ?_
            refine awp_region tyOk tyPos [] rfl ?_
            simp only [push_cast, ↓brB_true, ↓brB_false, ↓reduceIte, zA, zB, zC, zD, zE, zF, zG, zH, zI, reduceCtorEq]
            repeat' apply And.intro
            all_goals try exact gB
            refine hL0 _ ⟨k + 1, (show k + 1 ≤ inn.length by omega), (show inn.length - (k + 1) < inn.length - k by omega), ?_⟩
            first | rw [goal_yes (k := k) (n := inn.length) (inn := inn) (by omega) (by with_reducible assumption)] | rw [goal_no (k := k) (n := inn.length) (inn := inn) (by omega) (by with_reducible assumption)]
            refine cov_of rfl ?_ ?_ ?_ <;> simp only [covS, covL, push_cast, ↓brB_true, ↓brB_false, ↓reduceIte, zA, zB, zC, zD, zE, zF, zG, zH, zI, reduceCtorEq])
      ·
        refine awp_exit ?_
        have hkk : k = inn.length := by omega
        subst hkk
        rw [mkB_all]
        rw [hG]
        (try simp only [AThen, ABlk, reduceIte, zF]); refine hK2 _ ?_
        refine awp_seq' fun K hK => ?_
        refine awp_region tyOk tyPos [] rfl ?_
        all_goals refine aops_cut 6 fun K9 hK9 => ?_
        all_goals simp only [push_cast, ↓brB_true, ↓brB_false, ↓reduceIte, zA, zB, zC, zD, zE, zF, zG, zH, zI, reduceCtorEq]
        all_goals repeat' (first | (apply brB_mk <;> (intro hg; (try simp only [push_cast] at hg))) | (refine ⟨_, hAt, ?_⟩; simp only [push_cast, ↓brB_true, ↓brB_false, ↓reduceIte, zA, zB, zC, zD, zE, zF, zG, zH, zI, reduceCtorEq]) | apply And.intro | (intro hg; (try simp only [push_cast] at hg)))
        all_goals try exact gA
        all_goals first | (refine hK9 _ ?_; clear hK9 K9) | (simp only [push_cast]; done)
        all_goals refine aops_cut 1 fun K9 hK9 => ?_
        all_goals simp only [push_cast, ↓brB_true, ↓brB_false, ↓reduceIte, zA, zB, zC, zD, zE, zF, zG, zH, zI, reduceCtorEq]
        all_goals repeat' (first | (apply brB_mk <;> (intro hg; (try simp only [push_cast] at hg))) | (refine ⟨_, hLs, ?_⟩; simp only [push_cast, ↓brB_true, ↓brB_false, ↓reduceIte, zA, zB, zC, zD, zE, zF, zG, zH, zI, reduceCtorEq]) | apply And.intro | (intro hg; (try simp only [push_cast] at hg)))
        all_goals try exact gA
        all_goals first | (refine hK9 _ ?_; clear hK9 K9) | (simp only [push_cast]; done)
        all_goals simp only [push_cast, ↓brB_true, ↓brB_false, ↓reduceIte, zA, zB, zC, zD, zE, zF, zG, zH, zI, reduceCtorEq]
        all_goals repeat' (first | (apply brB_mk <;> (intro hg; (try simp only [push_cast] at hg))) | (refine ⟨_, hAt, ?_⟩; simp only [push_cast, ↓brB_true, ↓brB_false, ↓reduceIte, zA, zB, zC, zD, zE, zF, zG, zH, zI, reduceCtorEq]) | (refine ⟨_, hLs, ?_⟩; simp only [push_cast, ↓brB_true, ↓brB_false, ↓reduceIte, zA, zB, zC, zD, zE, zF, zG, zH, zI, reduceCtorEq]) | apply And.intro | (intro hg; (try simp only [push_cast] at hg)))
        all_goals try exact gA
        all_goals first | (refine hK _ ?_; clear hK K) | (simp only [push_cast]; done)
        refine awp_seq' fun K hK => ?_
        refine awp_region tyOk tyPos [] rfl ?_
        all_goals refine aops_cut 3 fun K9 hK9 => ?_
        all_goals simp only [push_cast, ↓brB_true, ↓brB_false, ↓reduceIte, zA, zB, zC, zD, zE, zF, zG, zH, zI, reduceCtorEq]
        all_goals repeat' (first | (apply brB_mk <;> (intro hg; (try simp only [push_cast] at hg))) | (refine ⟨_, hF1 () (by omega), ?_⟩; simp only [push_cast, ↓brB_true, ↓brB_false, ↓reduceIte, zA, zB, zC, zD, zE, zF, zG, zH, zI, reduceCtorEq]) | apply And.intro | (intro hg; (try simp only [push_cast] at hg)))
        all_goals try exact gA
        all_goals first | (refine hK9 _ ?_; clear hK9 K9) | (simp only [push_cast]; done)
        all_goals simp only [push_cast, ↓brB_true, ↓brB_false, ↓reduceIte, zA, zB, zC, zD, zE, zF, zG, zH, zI, reduceCtorEq]
        all_goals repeat' (first | (apply brB_mk <;> (intro hg; (try simp only [push_cast] at hg))) | (refine ⟨_, hF1 () (by omega), ?_⟩; simp only [push_cast, ↓brB_true, ↓brB_false, ↓reduceIte, zA, zB, zC, zD, zE, zF, zG, zH, zI, reduceCtorEq]) | apply And.intro | (intro hg; (try simp only [push_cast] at hg)))
        all_goals try exact gA
        all_goals first | (refine hK _ ?_; clear hK K) | (simp only [push_cast]; done)
        refine awp_seq' fun K hK => ?_
        refine awp_region tyOk tyPos [] rfl ?_
        simp only [push_cast, ↓brB_true, ↓brB_false, ↓reduceIte, zA, zB, zC, zD, zE, zF, zG, zH, zI, reduceCtorEq]
        repeat' apply And.intro
        all_goals try exact gB
        all_goals first | (refine hK _ ?_; clear hK K) | (simp only [push_cast]; done)
        refine awp_seq' fun K hK => ?_
        refine awp_region tyOk tyPos [] rfl ?_
        simp only [push_cast, ↓brB_true, ↓brB_false, ↓reduceIte, zA, zB, zC, zD, zE, zF, zG, zH, zI, reduceCtorEq]
        repeat' apply And.intro
        all_goals try exact gB
        all_goals first | (refine hK _ ?_; clear hK K) | (simp only [push_cast]; done)
        refine awp_seq' fun K5 hK5 => ?_
        refine awp_seq' fun K hK => ?_
        refine awp_region tyOk tyPos [] rfl ?_
        simp only [push_cast, ↓brB_true, ↓brB_false, ↓reduceIte, zA, zB, zC, zD, zE, zF, zG, zH, zI, reduceCtorEq]
        repeat' apply And.intro
        all_goals try exact gB
        all_goals first | (refine hK _ ?_; clear hK K) | (simp only [push_cast]; done)
        refine awp_block ?_
        refine awp_loopU [13,14,45,68,69,70,71,72,73,74,75,76,77,78,79,80,81,82,83,84,85,86,87,88,89,90,91,92,93,94,95,96] [192] (fun (k : Nat) => [(14, .int .i64 k), (13, .bool (anyB lost k)), (12, .sl 192 [] 0 inn.length 4)]) (fun k => []) (fun k => [(192, ⟨.ex, 4, dB (mkB inn.length (lostB rest low who) k), none⟩)]) (fun k => k ≤ inn.length) (fun k => inn.length - k) 0 ?_ (Nat.zero_le _) ?_
        ·
          rw [mkB_0, show anyB lost 0 = false from rfl]
          refine cov_of rfl ?_ ?_ ?_ <;> simp only [covS, covL, push_cast, ↓brB_true, ↓brB_false, ↓reduceIte, zA, zB, zC, zD, zE, zF, zG, zH, zI, reduceCtorEq]
        · rintro k hk KL1 hL1
          have hml := mkB_len (f := lostB rest low who) hk
          have hrl1 := hrl ()
          have hLo1 := hLo ()
          simp only [push_cast, ↓brB_true, ↓brB_false, ↓reduceIte, zA, zB, zC, zD, zE, zF, zG, zH, zI, reduceCtorEq]
          refine awp_seq' fun K6 hK6 => ?_
          refine awp_seq' fun K hK => ?_
          refine awp_region tyOk tyPos [] rfl ?_
          simp only [push_cast, ↓brB_true, ↓brB_false, ↓reduceIte, zA, zB, zC, zD, zE, zF, zG, zH, zI, reduceCtorEq]
          repeat' apply And.intro
          all_goals try exact gB
          all_goals first | (refine hK _ ?_; clear hK K) | (simp only [push_cast]; done)
          refine awp_cond rfl (fun hc => ?_) (fun hc => ?_) <;> (try simp only [push_cast] at hc)
          ·
            refine awp_skip ?_
            (try simp only [AThen, ABlk, reduceIte, zF]); refine hK6 _ ?_
            refine awp_seq' fun K7 hK7 => ?_
            refine awp_block ?_
            refine awp_seq' fun K hK => ?_
            refine awp_regionN false tyOk tyPos ?_ rfl ?_
            · kernel_rfl
            all_goals simp only [push_cast, ↓brB_true, ↓brB_false, ↓reduceIte, zA, zB, zC, zD, zE, zF, zG, zH, zI, reduceCtorEq]
            all_goals repeat' (first | (apply brB_mk <;> (intro hg; (try simp only [push_cast] at hg))) | apply And.intro | (intro hg; (try simp only [push_cast] at hg)))
            all_goals try exact gA
            all_goals first | (refine hK _ ?_; clear hK K) | (simp only [push_cast]; done)
            all_goals (
                refine awp_regionN false tyOk tyPos ?_ rfl ?_
                · kernel_rfl
                all_goals simp only [push_cast, ↓brB_true, ↓brB_false, ↓reduceIte, zA, zB, zC, zD, zE, zF, zG, zH, zI, reduceCtorEq]
                all_goals repeat' (first | (apply brB_mk <;> (intro hg; (try simp only [push_cast] at hg))) | apply And.intro | (intro hg; (try simp only [push_cast] at hg)))
                all_goals first | exact gA | (rw [List.length_set]; omega) | skip
                all_goals (
                    (try simp only [AThen, ABlk, reduceIte, zF]); refine hK7 _ ?_
                    first | rw [lost_yes (k := k) (n := inn.length) (rest := rest) (by omega) (by with_reducible assumption)] | rw [lost_no (k := k) (n := inn.length) (rest := rest) (by omega) (by with_reducible assumption)]
                    have hml2 := mkB_len (f := lostB rest low who) (show k + 1 ≤ inn.length by omega)
                    have hmk := mkB_last (f := lostB rest low who) (show k < inn.length by omega)
                    rw [hL] at hmk
                    refine awp_region tyOk tyPos [] rfl ?_
                    all_goals simp only [push_cast, ↓brB_true, ↓brB_false, ↓reduceIte, zA, zB, zC, zD, zE, zF, zG, zH, zI, reduceCtorEq]
                    all_goals repeat' (first | (apply brB_mk <;> (intro hg; (try simp only [push_cast] at hg))) | apply And.intro | (intro hg; (try simp only [push_cast] at hg)))
                    all_goals first | exact gA | (rw [List.length_set]; omega) | skip
                    refine hL1 _ ⟨k + 1, (show k + 1 ≤ inn.length by omega), (show inn.length - (k + 1) < inn.length - k by omega), ?_⟩
                    first | rw [show anyB lost (k + 1) = true from by unfold anyB; rw [show anyB lost k = true from by with_reducible assumption]; rfl] | rw [show anyB lost (k + 1) = gb (mkB inn.length (lostB rest low who) (k + 1)) k from by rw [hmk]; show (anyB lost k || gb lost k) = _; rw [show anyB lost k = false from by with_reducible assumption]; rfl]
                    refine cov_of rfl ?_ ?_ ?_ <;> simp only [covS, covL, push_cast, ↓brB_true, ↓brB_false, ↓reduceIte, zA, zB, zC, zD, zE, zF, zG, zH, zI, reduceCtorEq]))
          ·
            refine awp_exit ?_
            have hkk : k = inn.length := by omega
            subst hkk
            rw [mkB_all]
            rw [hL]
            (try simp only [AThen, ABlk, reduceIte, zF]); refine hK5 _ ?_
            refine awp_seq' fun K8 hK8 => ?_
            refine awp_seq' fun K hK => ?_
            refine awp_region tyOk tyPos [] rfl ?_
            simp only [push_cast, ↓brB_true, ↓brB_false, ↓reduceIte, zA, zB, zC, zD, zE, zF, zG, zH, zI, reduceCtorEq]
            repeat' apply And.intro
            all_goals try exact gB
            all_goals first | (refine hK _ ?_; clear hK K) | (simp only [push_cast]; done)
            refine awp_cond rfl (fun hc => ?_) (fun hc => ?_) <;> (try simp only [push_cast] at hc)
            ·
              refine awp_seq' fun K9 hK9 => ?_
              have hany : anyB lost inn.length = false := by first | exact hc | simpa using hc
              have hr9 := (hres ()).2.1 (by omega) hany
              subst hr9
              refine awp_seq' fun K hK => ?_
              refine awp_region tyOk tyPos [] rfl ?_
              simp only [push_cast, ↓brB_true, ↓brB_false, ↓reduceIte, zA, zB, zC, zD, zE, zF, zG, zH, zI, reduceCtorEq]
              repeat' apply And.intro
              all_goals try exact gB
              all_goals first | (refine hK _ ?_; clear hK K) | (simp only [push_cast]; done)
              refine awp_block ?_
              refine awp_loopU [15,45,80,91,99,100,101,102,103,104,105,106,107,108,109,110,111,112,113,114,115] [96] (fun (k : Nat) => [(15, .int .i64 k), (6, .sl 96 [] 0 inn.length 4)]) (fun k => []) (fun k => [(96, ⟨.ex, 4, dB (mkB inn.length (winA inn who) k), none⟩)]) (fun k => k ≤ inn.length) (fun k => inn.length - k) 0 ?_ (Nat.zero_le _) ?_
              ·
                rw [mkB_0]
                refine cov_of rfl ?_ ?_ ?_ <;> simp only [covS, covL, push_cast, ↓brB_true, ↓brB_false, ↓reduceIte, zA, zB, zC, zD, zE, zF, zG, zH, zI, reduceCtorEq]
              · rintro k hk KL2 hL2
                have hml := mkB_len (f := winA inn who) hk
                simp only [push_cast, ↓brB_true, ↓brB_false, ↓reduceIte, zA, zB, zC, zD, zE, zF, zG, zH, zI, reduceCtorEq]
                refine awp_seq' fun K10 hK10 => ?_
                refine awp_seq' fun K hK => ?_
                refine awp_region tyOk tyPos [] rfl ?_
                simp only [push_cast, ↓brB_true, ↓brB_false, ↓reduceIte, zA, zB, zC, zD, zE, zF, zG, zH, zI, reduceCtorEq]
                repeat' apply And.intro
                all_goals try exact gB
                all_goals first | (refine hK _ ?_; clear hK K) | (simp only [push_cast]; done)
                refine awp_cond rfl (fun hc => ?_) (fun hc => ?_) <;> (try simp only [push_cast] at hc)
                ·
                  refine awp_skip ?_
                  (try simp only [AThen, ABlk, reduceIte, zF]); refine hK10 _ ?_
                  refine awp_seq' fun K11 hK11 => ?_
                  refine awp_block ?_
                  refine awp_regionN false tyOk tyPos ?_ rfl ?_
                  · kernel_rfl
                  all_goals simp only [push_cast, ↓brB_true, ↓brB_false, ↓reduceIte, zA, zB, zC, zD, zE, zF, zG, zH, zI, reduceCtorEq]
                  all_goals repeat' (first | (apply brB_mk <;> (intro hg; (try simp only [push_cast] at hg))) | apply And.intro | (intro hg; (try simp only [push_cast] at hg)))
                  all_goals try exact gA
                  all_goals (
                      (try simp only [AThen, ABlk, reduceIte, zF]); refine hK11 _ ?_
                      refine awp_region tyOk tyPos [] rfl ?_
                      simp only [push_cast, ↓brB_true, ↓brB_false, ↓reduceIte, zA, zB, zC, zD, zE, zF, zG, zH, zI, reduceCtorEq]
                      repeat' apply And.intro
                      all_goals try exact gB
                      refine hL2 _ ⟨k + 1, (show k + 1 ≤ inn.length by omega), (show inn.length - (k + 1) < inn.length - k by omega), ?_⟩
                      first | rw [winA_yes (k := k) (n := inn.length) (inn := inn) (by omega) (by with_reducible assumption)] | rw [winA_no (k := k) (n := inn.length) (inn := inn) (by omega) (by with_reducible assumption)]
                      refine cov_of rfl ?_ ?_ ?_ <;> simp only [covS, covL, push_cast, ↓brB_true, ↓brB_false, ↓reduceIte, zA, zB, zC, zD, zE, zF, zG, zH, zI, reduceCtorEq])
                ·
                  refine awp_exit ?_
                  have hkk : k = inn.length := by omega
                  subst hkk
                  rw [mkB_all]
                  (try simp only [AThen, ABlk, reduceIte, zF]); refine hK9 _ ?_
                  refine awp_seq' fun K hK => ?_
                  refine awp_region tyOk tyPos [] rfl ?_
                  simp only [push_cast, ↓brB_true, ↓brB_false, ↓reduceIte, zA, zB, zC, zD, zE, zF, zG, zH, zI, reduceCtorEq]
                  repeat' apply And.intro
                  all_goals try exact gB
                  all_goals first | (refine hK _ ?_; clear hK K) | (simp only [push_cast]; done)
                  refine awp_ret ?_
                  (try simp only [AThen, ABlk])
                  refine ⟨Or.inl rfl, ?_⟩
                  simp only [RetOk, push_cast, ↓brB_true, ↓brB_false, ↓reduceIte, zA, zB, zC, zD, zE, zF, zG, zH, zI, reduceCtorEq]
                  all_goals first | rfl | exact ⟨rfl, by simp [mapB]⟩ | (simp [mapB]; done)
            ·
              refine awp_skip ?_
              (try simp only [AThen, ABlk, reduceIte, zF]); refine hK8 _ ?_
              have hany : anyB lost inn.length = true := by first | exact hc | simpa using hc
              have hr9 := (hres ()).2.2 (by omega) hany
              subst hr9
              refine awp_seq' fun K hK => ?_
              refine awp_region tyOk tyPos [] rfl ?_
              all_goals refine aops_cut 6 fun K9 hK9 => ?_
              all_goals simp only [push_cast, ↓brB_true, ↓brB_false, ↓reduceIte, zA, zB, zC, zD, zE, zF, zG, zH, zI, reduceCtorEq]
              all_goals repeat' (first | (apply brB_mk <;> (intro hg; (try simp only [push_cast] at hg))) | (refine ⟨_, hAu, ?_⟩; simp only [push_cast, ↓brB_true, ↓brB_false, ↓reduceIte, zA, zB, zC, zD, zE, zF, zG, zH, zI, reduceCtorEq]) | apply And.intro | (intro hg; (try simp only [push_cast] at hg)))
              all_goals try exact gA
              all_goals first | (refine hK9 _ ?_; clear hK9 K9) | (simp only [push_cast]; done)
              all_goals simp only [push_cast, ↓brB_true, ↓brB_false, ↓reduceIte, zA, zB, zC, zD, zE, zF, zG, zH, zI, reduceCtorEq]
              all_goals repeat' (first | (apply brB_mk <;> (intro hg; (try simp only [push_cast] at hg))) | (refine ⟨_, hAu, ?_⟩; simp only [push_cast, ↓brB_true, ↓brB_false, ↓reduceIte, zA, zB, zC, zD, zE, zF, zG, zH, zI, reduceCtorEq]) | apply And.intro | (intro hg; (try simp only [push_cast] at hg)))
              all_goals try exact gA
              all_goals first | (refine hK _ ?_; clear hK K) | (simp only [push_cast]; done)
              refine awp_seq' fun K hK => ?_
              refine awp_regionD1 false tyOk tyPos tyMix ?_ rfl ?_
              · kernel_rfl
              intro E hE
              all_goals refine lexF_cut 4 (by decide) fun K9 hK9 => ?_
              all_goals simp only [push_cast, ↓brB_true, ↓brB_false, ↓reduceIte, zA, zB, zC, zD, zE, zF, zG, zH, zI, reduceCtorEq]
              all_goals repeat' (first | (apply brB_mk <;> (intro hg; (try simp only [push_cast] at hg))) | (refine ⟨_, hLu, ?_⟩; simp only [push_cast, ↓brB_true, ↓brB_false, ↓reduceIte, zA, zB, zC, zD, zE, zF, zG, zH, zI, reduceCtorEq]) | apply And.intro | (intro hg; (try simp only [push_cast] at hg)))
              all_goals try exact gA
              all_goals first | (refine hK9 _ _ ?_; clear hK9 K9) | (simp only [push_cast]; done)
              all_goals refine lexF_cut 1 (by decide) fun K9 hK9 => ?_
              all_goals simp only [push_cast, ↓brB_true, ↓brB_false, ↓reduceIte, zA, zB, zC, zD, zE, zF, zG, zH, zI, reduceCtorEq]
              all_goals repeat' (first | (apply brB_mk <;> (intro hg; (try simp only [push_cast] at hg))) | (refine ⟨_, hF2 () (by omega) hany, ?_⟩; simp only [push_cast, ↓brB_true, ↓brB_false, ↓reduceIte, zA, zB, zC, zD, zE, zF, zG, zH, zI, reduceCtorEq]) | apply And.intro | (intro hg; (try simp only [push_cast] at hg)))
              all_goals try exact gA
              all_goals first | (refine hK9 _ _ ?_; clear hK9 K9) | (simp only [push_cast]; done)
              all_goals simp only [push_cast, ↓brB_true, ↓brB_false, ↓reduceIte, zA, zB, zC, zD, zE, zF, zG, zH, zI, reduceCtorEq]
              all_goals repeat' (first | (apply brB_mk <;> (intro hg; (try simp only [push_cast] at hg))) | (refine ⟨_, hLu, ?_⟩; simp only [push_cast, ↓brB_true, ↓brB_false, ↓reduceIte, zA, zB, zC, zD, zE, zF, zG, zH, zI, reduceCtorEq]) | (refine ⟨_, hF2 () (by omega) hany, ?_⟩; simp only [push_cast, ↓brB_true, ↓brB_false, ↓reduceIte, zA, zB, zC, zD, zE, zF, zG, zH, zI, reduceCtorEq]) | apply And.intro | (intro hg; (try simp only [push_cast] at hg)))
              all_goals first | exact gA | (refine hE _ _ ?_ ?_; kernel_rfl) | skip
              all_goals clear hE E
              all_goals first | (refine hK _ ?_; clear hK K) | (simp only [push_cast]; done)
              refine awp_seq' fun K12 hK12 => ?_
              refine awp_seq' fun K hK => ?_
              refine awp_region tyOk tyPos [] rfl ?_
              simp only [push_cast, ↓brB_true, ↓brB_false, ↓reduceIte, zA, zB, zC, zD, zE, zF, zG, zH, zI, reduceCtorEq]
              repeat' apply And.intro
              all_goals try exact gB
              all_goals first | (refine hK _ ?_; clear hK K) | (simp only [push_cast]; done)
              refine awp_block ?_
              refine awp_loopU [18,45,80,91,111,128,129,130,131,132,133,134,135,136,137,138,139,140,141,142,143,144,145,146,147,148,149,150] [96] (fun (k : Nat) => [(18, .int .i64 k), (6, .sl 96 [] 0 inn.length 4)]) (fun k => []) (fun k => [(96, ⟨.ex, 4, dB (mkB inn.length (winB again away who) k), none⟩)]) (fun k => k ≤ inn.length) (fun k => inn.length - k) 0 ?_ (Nat.zero_le _) ?_
              ·
                rw [mkB_0]
                refine cov_of rfl ?_ ?_ ?_ <;> simp only [covS, covL, push_cast, ↓brB_true, ↓brB_false, ↓reduceIte, zA, zB, zC, zD, zE, zF, zG, zH, zI, reduceCtorEq]
              · rintro k hk KL3 hL3
                have hml := mkB_len (f := winB again away who) hk
                have hLa1 := hLa ()
                have hwl1 := hwl ()
                simp only [push_cast, ↓brB_true, ↓brB_false, ↓reduceIte, zA, zB, zC, zD, zE, zF, zG, zH, zI, reduceCtorEq]
                refine awp_seq' fun K13 hK13 => ?_
                refine awp_seq' fun K hK => ?_
                refine awp_region tyOk tyPos [] rfl ?_
                simp only [push_cast, ↓brB_true, ↓brB_false, ↓reduceIte, zA, zB, zC, zD, zE, zF, zG, zH, zI, reduceCtorEq]
                repeat' apply And.intro
                all_goals try exact gB
                all_goals first | (refine hK _ ?_; clear hK K) | (simp only [push_cast]; done)
                refine awp_cond rfl (fun hc => ?_) (fun hc => ?_) <;> (try simp only [push_cast] at hc)
                ·
                  refine awp_skip ?_
                  (try simp only [AThen, ABlk, reduceIte, zF]); refine hK13 _ ?_
                  refine awp_seq' fun K14 hK14 => ?_
                  refine awp_block ?_
                  refine awp_regionN false tyOk tyPos ?_ rfl ?_
                  · kernel_rfl
                  all_goals simp only [push_cast, ↓brB_true, ↓brB_false, ↓reduceIte, zA, zB, zC, zD, zE, zF, zG, zH, zI, reduceCtorEq]
                  all_goals repeat' (first | (apply brB_mk <;> (intro hg; (try simp only [push_cast] at hg))) | apply And.intro | (intro hg; (try simp only [push_cast] at hg)))
                  all_goals try exact gA
                  all_goals (
                      (try simp only [AThen, ABlk, reduceIte, zF]); refine hK14 _ ?_
                      refine awp_region tyOk tyPos [] rfl ?_
                      simp only [push_cast, ↓brB_true, ↓brB_false, ↓reduceIte, zA, zB, zC, zD, zE, zF, zG, zH, zI, reduceCtorEq]
                      repeat' apply And.intro
                      all_goals try exact gB
                      refine hL3 _ ⟨k + 1, (show k + 1 ≤ inn.length by omega), (show inn.length - (k + 1) < inn.length - k by omega), ?_⟩
                      first | rw [winB_1 (k := k) (n := inn.length) (again := again) (away := away) (by omega) (by with_reducible assumption)] | rw [winB_2 (k := k) (n := inn.length) (again := again) (away := away) (by omega) (by with_reducible assumption) (by with_reducible assumption)] | rw [winB_3 (k := k) (n := inn.length) (again := again) (away := away) (by omega) (by with_reducible assumption) (by with_reducible assumption)]
                      refine cov_of rfl ?_ ?_ ?_ <;> simp only [covS, covL, push_cast, ↓brB_true, ↓brB_false, ↓reduceIte, zA, zB, zC, zD, zE, zF, zG, zH, zI, reduceCtorEq])
                ·
                  refine awp_exit ?_
                  have hkk : k = inn.length := by omega
                  subst hkk
                  rw [mkB_all]
                  (try simp only [AThen, ABlk, reduceIte, zF]); refine hK12 _ ?_
                  refine awp_seq' fun K hK => ?_
                  refine awp_region tyOk tyPos [] rfl ?_
                  simp only [push_cast, ↓brB_true, ↓brB_false, ↓reduceIte, zA, zB, zC, zD, zE, zF, zG, zH, zI, reduceCtorEq]
                  repeat' apply And.intro
                  all_goals try exact gB
                  all_goals first | (refine hK _ ?_; clear hK K) | (simp only [push_cast]; done)
                  refine awp_ret ?_
                  (try simp only [AThen, ABlk])
                  refine ⟨Or.inl rfl, ?_⟩
                  simp only [RetOk, push_cast, ↓brB_true, ↓brB_false, ↓reduceIte, zA, zB, zC, zD, zE, zF, zG, zH, zI, reduceCtorEq]
                  all_goals first | rfl | exact ⟨rfl, by simp [mapB]⟩ | (simp [mapB]; done)
end Go.Proofs.Ytdbecmmeifdafaa

namespace Go.Proofs.Ytdbecmmeifdafaa
open Go.RowKit
set_option linter.unusedVariables false
set_option linter.unusedSimpArgs false
theorem l7Win_fn (x : L7) : ∀ (f : Nat) (inn : List Bool), x.Ok inn.length → cntB inn inn.length < f → Fn Try.prog tyT 147 [.agg (dL7 x), .c (.lst 4 (dB inn))] [.c (.lst 4 (dB (winL x inn.length f inn)))]
  | 0, inn, _, h => absurd h (Nat.not_lt_zero _)
  | f + 1, inn, hx, hc => by
    obtain ⟨n, hn⟩ : ∃ n, inn.length = n := ⟨_, rfl⟩
    obtain ⟨top, hT⟩ : ∃ t, topK x inn inn.length = t := ⟨_, rfl⟩
    obtain ⟨who, hW⟩ : ∃ t, Int.tmod top 2 = t := ⟨_, rfl⟩
    obtain ⟨goal, hG⟩ : ∃ t, mapB inn.length (goalB x inn top) = t := ⟨_, rfl⟩
    obtain ⟨att, hAt⟩ : ∃ t, attB x inn.length inn who goal = t := ⟨_, rfl⟩
    obtain ⟨rest, hR⟩ : ∃ t, lessL inn att = t := ⟨_, rfl⟩
    obtain ⟨low, hLo⟩ : ∃ t, winL x inn.length f rest = t := ⟨_, rfl⟩
    obtain ⟨lost, hL⟩ : ∃ t, mapB inn.length (lostB rest low who) = t := ⟨_, rfl⟩
    obtain ⟨away, hA⟩ : ∃ t, attB x inn.length inn (1 - who) lost = t := ⟨_, rfl⟩
    obtain ⟨rest2, hR2⟩ : ∃ t, lessL inn away = t := ⟨_, rfl⟩
    obtain ⟨again, hAg⟩ : ∃ t, winL x inn.length f rest2 = t := ⟨_, rfl⟩
    have hs := winL_s x inn.length f inn hT hW hG (by rw [hAt]; exact hR) hLo hL hA
    rw [hR2, hAg] at hs
    have hrl : rest.length = inn.length := by rw [← hR, lessL_len]
    have hr2l : rest2.length = inn.length := by rw [← hR2, lessL_len]
    have hex := top_ex hx (inn := inn) inn.length (Nat.le_refl _)
    rw [hT] at hex
    have hlt : 0 ≤ top → cntB rest inn.length < cntB inn inn.length := fun ht => by
      obtain ⟨w, hw, hw3, hw4⟩ := hex.resolve_left (by omega)
      rw [← hR, ← hAt]
      refine rest_lt rfl hw hw3 ?_
      rw [← hG, mapB_at hw]
      unfold goalB
      rw [hw3, hw4]
      simp
    refine l7Win_step x inn hx top who hT (fun _ ht => ⟨hW, by rw [← hW, tmodW ht]; omega, by rw [← hW, tmodW ht]; omega⟩) goal att rest low lost away rest2 again _ hG hAt hR (fun _ => by rw [← hLo]; exact winL_len _ _ _ _) hL hA hR2 (fun _ => by rw [← hAg]; exact winL_len _ _ _ _) (fun _ ht => ?_) (fun _ ht ha => ?_) (fun _ => ⟨fun ht => ?_, fun ht ha => ?_, fun ht ha => ?_⟩)
    · have := l7Win_fn x f rest (by rw [hrl]; exact hx) (by rw [hrl]; have := hlt ht; omega)
      rw [hrl, hLo] at this
      exact this
    · have hlt2 : cntB rest2 inn.length < cntB inn inn.length := by
        obtain ⟨a, ha1, ha2⟩ := anyB_iff.1 ha
        rw [← hR2, ← hA]
        refine rest_lt rfl ha1 ?_ ha2
        rw [← hL, mapB_at ha1] at ha2
        unfold lostB at ha2
        rw [Bool.and_eq_true, ← hR, lessL_at ha1, Bool.and_eq_true] at ha2
        exact ha2.1.1
      have := l7Win_fn x f rest2 (by rw [hr2l]; exact hx) (by rw [hr2l]; omega)
      rw [hr2l, hAg] at this
      exact this
    · rw [hs, if_pos ht]
    · rw [hs, if_neg (by omega), if_neg (by rw [ha]; decide)]
    · rw [hs, if_neg (by omega), if_pos ha]
end Go.Proofs.Ytdbecmmeifdafaa

namespace Go.Proofs.Ytdbecmmeifdafaa
open Go.RowKit
set_option linter.unusedVariables false
set_option linter.unusedSimpArgs false

section
variable {P : Program} {np : Bool} {τ : Ty} {lo : Nat} {w0 : Fz} {ow : Nat → Option Pl} {hd : Nat → Value} {bk : Nat → Nat} {st : St} {a : Act} {w : World}
def shOkT (τ : Ty) (st : St) : List Nat → List AV → Prop
  | [], us => us = []
  | _ :: _, [] => False
  | i :: pm, u :: us => (match u with
    | .sl d [] 0 len e => d = home 0 i ∧ (match lk st.r d with | some R => R.pin = some d ∧ R.e = e ∧ len * sz τ e = R.xs.length | none => False) ∧ 0 < sz τ e
    | _ => False) ∧ shOkT τ st pm us
theorem shOkT_sound (h : RelC τ lo w0 ow hd bk st a w) {pin : Nat → Value} (hpin : ∀ id, w0.pin id = some (pin id)) : ∀ {pm : List Nat} {us : List AV} {cs : List Value}, shOkT τ st pm us → AvRL τ w st.r st.b hd bk us cs → cs.length = pm.length ∧ ∀ (i j : Nat) (c : Value), pm[i]? = some j → cs[i]? = some c → c = pin (home 0 j)
  | [], us, cs, ho, hv => by
    simp only [shOkT] at ho
    subst ho
    simp only [AvRL] at hv
    subst hv
    exact ⟨rfl, fun i j c h => by simp at h⟩
  | j0 :: pm, [], cs, ho, hv => by simp only [shOkT] at ho
  | j0 :: pm, u :: us, cs, ho, hv => by
    simp only [AvRL] at hv
    obtain ⟨c0, cs', rfl, h1, h2⟩ := hv
    simp only [shOkT] at ho
    obtain ⟨k1, k2⟩ := shOkT_sound h hpin ho.2 h2
    refine ⟨by simp [k1], fun i j c hj hc => ?_⟩
    cases i with
    | succ i => exact k2 i j c (by simpa using hj) (by simpa using hc)
    | zero =>
      simp at hc hj
      subst hc; subst hj
      have ho1 := ho.1
      split at ho1
      · rename_i d len e
        obtain ⟨rfl, q1, q2⟩ := ho1
        split at q1
        · rename_i R hR
          obtain ⟨p1, p2, p3⟩ := q1
          simp only [AvR] at h1
          obtain ⟨-, hx⟩ := h1
          obtain ⟨hv2, hin, A, n, c, A', c', e1, e2, hle, hlc, hmx, hf0, hA⟩ := hx R hR (by simp [okPath])
          simp only [into, Option.some.injEq] at hin
          obtain ⟨rfl, rfl⟩ := hf0 rfl
          have hp := h.pin _ R _ hR p1
          rw [hpin] at hp
          have hp' : pin (home 0 j0) = hd (home 0 j0) := Option.some.inj hp
          have hroot := h.root _ R hR
          rw [hin, e1] at hroot
          obtain ⟨A2, n2, c2, hf, hlen, -⟩ := Rp_form hroot
          cases hf
          rw [p2] at hlen
          have : len = n := Nat.eq_of_mul_eq_mul_right q2 (by omega)
          subst this
          rw [hp', hin, e1, e2]
        · exact q1.elim
      · exact ho1.elim
def RetT (τ : Ty) (rs : List ResultVar) (pm : List Nat) (ress : List D) (e : Exit) (st : St) : Prop := (e = .ret ∨ e = .normal) ∧
  match resVars τ st rs with
  | some ([.agg us], ob) => ob ∧ pm.length ≤ us.length ∧ shOkT τ st pm (us.take pm.length) ∧ (match retCells τ st ress (us.drop pm.length) with | some (is, ob2) => noDup is = true ∧ ob2 | none => False)
  | _ => False
theorem FnT_of (hτ : TyOk P τ) (hpos : TyPos τ) {f : FuncId} {fn : Func} {c : Code} {rs : List ResultVar} {ds0 : List D} {args : List VT} {pm : List Nat} {ress : List D} (hfn : P.funcs[f]? = some fn) (hname : (fn.name == "runtime.NumGoroutine") = false) (hb : fn.body = some c) (hres : fn.results = rs.toArray) (hn : (.agg ds0 :: args : List VT).length ≤ fn.ntmps) (hfew : few (.agg ds0 :: args) = true) (hs : szA τ (.agg ds0 :: args)) (hm : (pm.all fun i => decide (i < ds0.length)) = true)
    (h : awp P τ c (RetT τ rs pm ress) (argStS τ fn.ntmps (.agg ds0 :: args))) : FnT P τ f (.agg ds0 :: args) pm ress := by
  refine ⟨⟨fn, hfn, hname, by rw [hb]; rfl⟩, fun w cargs hargs => ?_⟩
  have hstart : Rel τ w.heap.size _ (argStS τ fn.ntmps (.agg ds0 :: args)) { tmps := cargs.toArray ++ Array.replicate (fn.ntmps - cargs.toArray.size) undef, defers := [] } w := ⟨_, _, _, argStS_sound hs hfew hn hargs⟩
  obtain ⟨v0, vs0, hc0, ⟨cs0, rfl, hr0⟩, -⟩ := id hargs
  refine calls_of_wp hfn hb (Go.wp_mono (h w.heap.size _ _ w hstart) fun e a' w' ⟨st', ⟨ow, hd, bk, hr⟩, he, hret0⟩ => ?_)
  have hpost : a'.defers = [] ∧ ∃ v, (results fn a'.tmps).run P w' = .ok v w' ∧ PostT τ w pm ress cargs (.returned v) w' := by
    split at hret0
    · rename_i us ob0 hrv
      obtain ⟨hob0, hml, hsh, hret⟩ := hret0
      obtain ⟨xs, hrun, hv⟩ := results_runR hτ hpos hr hres hrv hob0
      simp only [AvRL, AvR] at hv
      obtain ⟨x, xs', rfl, ⟨cs, rfl, hcs⟩, rfl⟩ := hv
      refine ⟨hr.defers, _, hrun, ?_⟩
      obtain ⟨s1, s2⟩ := AvRL_split pm.length hcs
      obtain ⟨p1, p2⟩ := shOkT_sound hr (fun id => rfl) hsh s1
      split at hret
      · rename_i is ob hcells
        obtain ⟨m1, m2⟩ := retCells_sound hr hcells hret.2 hret.1 s2
        have hlen0 : cs0.length = ds0.length := by
          have key : ∀ (ds : List D) (cs : List Value), RpS (sz τ) w.heap.size w (fun _ => none) ds cs → cs.length = ds.length := by
            intro ds
            induction ds with
            | nil => intro cs h; simp only [RpS] at h; subst h; rfl
            | cons d ds ih => intro cs h; simp only [RpS] at h; obtain ⟨c, cs', rfl, -, h2⟩ := h; simp [ih cs' h2]
          exact key _ _ hr0
        have htake : cs.take pm.length = selV pm undef cs0 := by
          refine List.ext_getElem? fun i => ?_
          rcases Nat.lt_or_ge i pm.length with hi | hi
          · have hu : (cs.take pm.length)[i]? = some ((cs.take pm.length)[i]'(by omega)) := List.getElem?_eq_getElem _
            have hpi : pm[i]? = some pm[i] := List.getElem?_eq_getElem hi
            have := p2 i _ _ hpi hu
            have hlt : pm[i] < ds0.length := by simpa using List.all_eq_true.1 hm pm[i] (List.getElem_mem hi)
            have hsel : (selV pm undef cs0)[i]? = some (cs0.getD pm[i] undef) := by unfold selV; rw [List.getElem?_map, hpi]; rfl
            rw [hu, this, hsel]
            have h16 : ds0.length ≤ 16 := by exact of_decide_eq_true (List.all_eq_true.1 hfew (.agg ds0) (by simp))
            have e1 : home 0 pm[i] / 16 = 0 := by unfold home; omega
            have e2 : home 0 pm[i] % 16 = pm[i] := by unfold home; omega
            simp only [hdArgs, e1, e2, hc0, List.getElem?_cons_zero]
            have hic : pm[i] < cs0.length := by omega
            rw [List.getD_eq_getElem?_getD, List.getElem?_eq_getElem hic]
            simp [hic]
          · rw [List.getElem?_eq_none (by omega), List.getElem?_eq_none (by unfold selV; rw [List.length_map]; exact hi)]
        refine ⟨cs0, cs.drop pm.length, outOw ow is, by rw [hc0]; rfl, by rw [← htake, List.take_append_drop]; rfl, ⟨hr.below.os, hr.below.tape, hr.below.output, hr.below.size, fun b hb => hr.below.block b hb trivial⟩, fun b hlt => ?_, fun b p hp => ?_, RpF_of m1 fun i d c hd hc => by rw [Nat.zero_add]; exact m2 i d c hd hc⟩
        · unfold outOw
          split
          · rename_i d q ho
            have := (hr.ge b _ (by have := hr.below.size; simp only at this; omega) ho (by simp)).1
            omega
          · rfl
        · unfold outOw at hp
          split at hp
          · rename_i d q ho
            split at hp
            · cases hp
              refine ⟨?_, by simp⟩
              rcases Nat.lt_or_ge b w'.heap.size with h' | h'
              · exact h'
              · rw [hr.new b h'] at ho; cases ho
            · cases hp
          · cases hp
      · exact hret.elim
    · exact hret0.elim
  rcases he with rfl | rfl <;> exact hpost

def actTE (P : Program) (τ : Ty) (o : Oper) (st : St) (K : Dl → Prop) : Prop :=
  match callOf o with
  | some (f, args, ts) =>
    match argsOf τ st ts.toList (args.toList.map (ev st)), args.toList.map (ev st) with
    | some (as9, ob), .agg us :: _ => ob ∧ ∃ pm ress, FnT P τ f as9 pm ress ∧ (pm.all fun i => decide (i < us.length)) = true ∧ szL τ ress ∧ ress.length ≤ 16 ∧ K ⟨.agg (selV pm .dead us ++ resC τ (dstN o) 0 ress), newR (dstN o) 0 ress, [], []⟩
    | _, _ => False
  | none => False
theorem actTE_act {o : Oper} {K : Dl → Prop} (h : actTE P τ o st K) : ∃ δ, Act1 P np τ o st δ ∧ K δ := by
  unfold actTE at h
  cases hc : callOf o with
  | none => rw [hc] at h; exact h.elim
  | some x =>
    obtain ⟨f, args, ts⟩ := x
    rw [hc] at h
    simp only at h
    split at h
    · rename_i as9 ob us vs hargs hevs
      obtain ⟨hob, pm, ress, h1, h2, h3, h4, h5⟩ := h
      refine ⟨_, .inr (.inl ?_), h5⟩
      unfold ActT
      rw [hc]
      simp only
      rw [hargs, hevs]
      exact ⟨hob, pm, ress, h1, fun i hi => by simpa using List.all_eq_true.1 h2 i hi, h3, h4, rfl⟩
    · exact h.elim
theorem awp_regionPE (hτ : TyOk P τ) (hpos : TyPos τ) (hmix : P.follows .mixedOrders = true) {A : List (List Nat)} {Q : Exit → St → Prop} {id : Nat} {ops : List Oper} (hs : statOk np ops A = true) (hd : dstOk st.n ops = true) (hlex' : lexP P np τ ops A (fun st' => ∃ s, Eqv st' s ∧ Q .normal s) ops 0 [] (st.start np ops)) : awp P τ (.region id ops.toArray true) Q st := fun lo w0 a w hr => by
  simp only [statOk, Bool.and_eq_true] at hs
  obtain ⟨h1, h2, h3⟩ := hs
  have hn : a.tmps.size = st.n := by obtain ⟨ow, hd, bk, h⟩ := hr; exact h.size
  have hrc : Rel τ lo w0 (st.clean np ops) a { w with drawn := w.drawn + 1 } := by
    obtain ⟨ow, hd, bk, h⟩ := Rel_kill hr (fun d => ((ops.filter (makes np)).map dstN).contains (d / 16)) (fun t => ((ops.filter (makes np)).map dstN).contains t)
    exact ⟨ow, hd, bk, RelC_drew h⟩
  have hr' : Rel τ lo w0 (st.start np ops) a { w with drawn := w.drawn + 1 } := by
    unfold St.start
    split
    · exact Rel_cut hrc
    · exact hrc
  have hpf : np = true → PF (st.start np ops) := fun e => by unfold St.start; rw [if_pos e]; exact cut_PF _
  refine wp_region_any hmix ?_
  have hany := anyA_lex (fun st st' he ⟨s, h1, h2⟩ => ⟨s, he.symm.trans h1, h2⟩) h1 ops 0 [] (Array.replicate ops.length false) _ (by simp) (fun j o _ hj => by
    rw [Array.getD_eq_getD_getElem?, Array.getElem?_replicate] at hj
    split at hj <;> simp at hj) h3 hlex'
  have := anyA_sound (Q' := fun e a' w' => ∃ st', Rel τ lo w0 st' a' w' ∧ Q e st') hτ hpos h2 (fun st' a w ⟨s, he, hq⟩ hr => ⟨s, Rel_cov hr he.cov, hq⟩) ops.length [] (Array.replicate ops.length false) (st.start np ops) a { w with drawn := w.drawn + 1 } (by rw [hn]; exact hd) (fun j o ho _ hm => by
    have hfc : Free (own (dstN o)) (st.clean np ops) := by
      refine kill_free_own (fun d hdt => ?_) (makes_mem ho hm)
      rw [hdt]; exact makes_mem ho hm
    unfold St.start
    split
    · exact cut_Free hfc
    · exact hfc) hpf hr' hany
  simpa using this
end
end Go.Proofs.Ytdbecmmeifdafaa
