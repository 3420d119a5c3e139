/- the mean of a loop: both sides -/
import Derived.Test.YtdbecmmeifdafaaB7zme
import Derived.Test.YtdbecmmeifdafaaB4zme
namespace Go.Proofs.Ytdbecmmeifdafaa
open Nat renaming reduceMod → zA, reduceMul → zB, reduceDiv → zC, reduceAdd → zD, reduceSub → zE, reduceEqDiff → zF, reduceBEq → zG, reduceLT → zH, reduceLeDiff → zI
open Go.RowKit
set_option linter.unusedVariables false
set_option linter.unusedSimpArgs false

theorem natAbs_max (n : Int) : (if -n > n then -n else n) = (n.natAbs : Int) := by split <;> omega
theorem tdiv_bd {n : Int} {B : Int} (g : Int) (h : -B ≤ n ∧ n ≤ B) : -B ≤ n.tdiv g ∧ n.tdiv g ≤ B := by
  have h1 : (n.tdiv g).natAbs ≤ n.natAbs := by rw [Int.natAbs_tdiv]; exact Nat.div_le_self _ _
  omega
theorem gcd_pos' (n : Int) {d : Int} (h : 1 ≤ d) : 1 ≤ Int.gcd n d := by
  have : Int.gcd n d ≠ 0 := fun h0 => by rw [Int.gcd_eq_zero_iff] at h0; omega
  omega
theorem tmod_nat (p q : Nat) : (p : Int).tmod q = ((p % q : Nat) : Int) := by
  rw [Int.tmod_eq_emod_of_nonneg (by omega)]
  simp
def frOf (n d : Int) : Fr := ⟨n.tdiv (Int.gcd n d), d.tdiv (Int.gcd n d)⟩
def meanB (w : Wt) : Bool := weightedB w && decide (w.cost.length ≤ 8)
def meanRes (w : Wt) (l : Ls) : Fr := if meanB w && lassoB w.a l then frOf (loopV w l) l.loop.length else ⟨0, 0⟩
theorem meanRes_no1 {w : Wt} {l : Ls} (h : meanB w = false) : meanRes w l = ⟨0, 0⟩ := by unfold meanRes; rw [h]; rfl
theorem meanRes_no2 {w : Wt} {l : Ls} (h : lassoB w.a l = false) : meanRes w l = ⟨0, 0⟩ := by unfold meanRes; rw [h, Bool.and_false]; rfl
theorem meanB_ok {w : Wt} (h : meanB w = true) : weightedB w = true := by unfold meanB at h; rw [Bool.and_eq_true] at h; exact h.1
theorem meanRes_yes {w : Wt} {l : Ls} (hw : meanB w = true) (h : lassoB w.a l = true) : meanRes w l = frOf (loopV w l) l.loop.length := by unfold meanRes; rw [hw, h]; rfl
theorem gcd_le {n d : Int} (h : 1 ≤ d) : (Int.gcd n d : Int) ≤ d := Int.le_of_dvd (by omega) (Int.gcd_dvd_right ..)
set_option maxRecDepth 20000 in
set_option maxHeartbeats 4000000 in
theorem commonOf_fn (a b : Int) (ha : 0 ≤ a ∧ a ≤ 9223372036854775807) (hb : 0 ≤ b ∧ b ≤ 9223372036854775807) : Fn Try.prog tyT 121 [.c (.int .i64 a), .c (.int .i64 b)] [.c (.int .i64 (Int.gcd a b))] := by
  obtain ⟨x, rfl⟩ : ∃ n : Nat, a = n := ⟨a.natAbs, by omega⟩
  obtain ⟨y, rfl⟩ : ∃ n : Nat, b = n := ⟨b.natAbs, by omega⟩
  refine Fn_of (fn := Try.f121) (ts := [4]) Try.func121 (by kernel_rfl) rfl rfl (by rw [Try.ntmps121]; exact Nat.le_of_ble_eq_true rfl) rfl (by simp only [szA, List.mem_cons, List.not_mem_nil, or_false, forall_eq_or_imp, forall_eq, VT.cells, szL]; try decide) ?_
  rw [Try.ntmps121]
  simp only [push_cast, ↓brB_true, ↓brB_false, ↓reduceIte, zA, zB, zC, zD, zE, zF, zG, zH, zI, reduceCtorEq]
  refine awp_seq' fun K hK => ?_
  refine awp_region tyOk tyPos [] rfl ?_
  all_goals simp only [push_cast, ↓brB_true, ↓brB_false, ↓reduceIte, zA, zB, zC, zD, zE, zF, zG, zH, zI, reduceCtorEq]
  all_goals repeat' (first | (apply brB_mk <;> (intro hg; (try simp only [push_cast] at hg))) | apply And.intro | (intro hg; (try simp only [push_cast] at hg)))
  all_goals first | exact gA | (rw [hmd]; have := hlt (by omega); omega) | skip
  all_goals first | (refine hK _ ?_; clear hK K) | (simp only [push_cast, ↓brB_true, ↓brB_false, ↓reduceIte, zA, zB, zC, zD, zE, zF, zG, zH, zI, reduceCtorEq]; done)
  refine awp_seq' fun K1 hK1 => ?_
  refine awp_block ?_
  refine awp_loopU [0,1,5,6,7,8,9,10] [] (fun (p : Nat × Nat) => [(0, .int .i64 p.1), (1, .int .i64 p.2)]) (fun p => []) (fun p => []) (fun p => Nat.gcd p.1 p.2 = Int.gcd x y ∧ p.1 ≤ 9223372036854775807 ∧ p.2 ≤ 9223372036854775807) (fun p => p.2) (x, y) ?_ ⟨rfl, by omega, by omega⟩ ?_
  ·
    refine cov_of rfl ?_ ?_ ?_ <;> simp only [covS, covL, push_cast, ↓brB_true, ↓brB_false, ↓reduceIte, zA, zB, zC, zD, zE, zF, zG, zH, zI, reduceCtorEq]
  · rintro ⟨p, q⟩ ⟨hg, hp, hq⟩ KL0 hL0
    dsimp only at hg hp hq
    have hmd := tmod_nat p q
    have hlt : q ≠ 0 → p % q < q := fun h => Nat.mod_lt _ (by omega)
    simp only [push_cast, ↓brB_true, ↓brB_false, ↓reduceIte, zA, zB, zC, zD, zE, zF, zG, zH, zI, reduceCtorEq]
    refine awp_seq' fun K2 hK2 => ?_
    refine awp_seq' fun K hK => ?_
    refine awp_region tyOk tyPos [] rfl ?_
    all_goals simp only [push_cast, ↓brB_true, ↓brB_false, ↓reduceIte, zA, zB, zC, zD, zE, zF, zG, zH, zI, reduceCtorEq]
    all_goals repeat' (first | (apply brB_mk <;> (intro hg; (try simp only [push_cast] at hg))) | apply And.intro | (intro hg; (try simp only [push_cast] at hg)))
    all_goals first | exact gA | (rw [hmd]; have := hlt (by omega); omega) | skip
    all_goals first | (refine hK _ ?_; clear hK K) | (simp only [push_cast, ↓brB_true, ↓brB_false, ↓reduceIte, zA, zB, zC, zD, zE, zF, zG, zH, zI, reduceCtorEq]; done)
    refine awp_cond rfl (fun hc => ?_) (fun hc => ?_) <;> (try simp only [push_cast] at hc)
    ·
      refine awp_skip ?_
      (try simp only [AThen, ABlk, reduceIte, zF]); refine hK2 _ ?_
      refine awp_block ?_
      refine awp_regionD1 false tyOk tyPos tyMix ?_ rfl ?_
      · kernel_rfl
      intro E hE
      all_goals simp only [push_cast, ↓brB_true, ↓brB_false, ↓reduceIte, zA, zB, zC, zD, zE, zF, zG, zH, zI, reduceCtorEq]
      all_goals repeat' (first | (apply brB_mk <;> (intro hg; (try simp only [push_cast] at hg))) | apply And.intro | (intro hg; (try simp only [push_cast] at hg)))
      all_goals first | exact gA | (refine hE _ _ ?_ ?_; kernel_rfl) | (rw [hmd]; have := hlt (by omega); omega) | skip
      all_goals clear hE E
      refine hL0 _ ⟨(q, p % q), ⟨by rw [← hg, Nat.gcd_comm p q, Nat.gcd_rec q p, Nat.gcd_comm], by omega, by have := hlt (by omega); omega⟩, by have := hlt (by omega); dsimp only; omega, ?_⟩
      rw [hmd]
      refine cov_of rfl ?_ ?_ ?_ <;> simp only [covS, covL, push_cast, ↓brB_true, ↓brB_false, ↓reduceIte, zA, zB, zC, zD, zE, zF, zG, zH, zI, reduceCtorEq]
    ·
      refine awp_exit ?_
      (try simp only [AThen, ABlk, reduceIte, zF]); refine hK1 _ ?_
      refine awp_seq' fun K hK => ?_
      refine awp_region tyOk tyPos [] rfl ?_
      all_goals simp only [push_cast, ↓brB_true, ↓brB_false, ↓reduceIte, zA, zB, zC, zD, zE, zF, zG, zH, zI, reduceCtorEq]
      all_goals repeat' (first | (apply brB_mk <;> (intro hg; (try simp only [push_cast] at hg))) | apply And.intro | (intro hg; (try simp only [push_cast] at hg)))
      all_goals first | exact gA | (rw [hmd]; have := hlt (by omega); omega) | skip
      all_goals first | (refine hK _ ?_; clear hK K) | (simp only [push_cast, ↓brB_true, ↓brB_false, ↓reduceIte, zA, zB, zC, zD, zE, zF, zG, zH, zI, reduceCtorEq]; done)
      refine awp_ret ?_
      (try simp only [AThen, ABlk])
      refine ⟨Or.inl rfl, ?_⟩
      simp only [RetOk, push_cast, ↓brB_true, ↓brB_false, ↓reduceIte, zA, zB, zC, zD, zE, zF, zG, zH, zI, reduceCtorEq]
      have hq0 : q = 0 := by omega
      subst hq0
      rw [Nat.gcd_zero_right] at hg
      rw [hg]
set_option maxRecDepth 20000 in
set_option maxHeartbeats 4000000 in
theorem fracOf_fn (n d : Int) (hn : -1000000000000 ≤ n ∧ n ≤ 1000000000000) (hd : 1 ≤ d ∧ d ≤ 1000000000000) : Fn Try.prog tyT 81 [.c (.int .i64 n), .c (.int .i64 d)] [.agg (dFr (frOf n d))] := by
  have hg1 := gcd_pos' n hd.1
  have hg2 := gcd_le (n := n) hd.1
  have ht1 := tdiv_bd (Int.gcd n d) hn
  have ht2 := tdiv_bd (B := 1000000000000) (Int.gcd n d) ⟨by omega, hd.2⟩
  have hC := commonOf_fn (if -n > n then -n else n) d (by rw [natAbs_max]; omega) (by omega)
  rw [show Int.gcd (if -n > n then -n else n) d = Int.gcd n d from by rw [natAbs_max]; simp [Int.gcd]] at hC
  unfold dFr frOf
  refine Fn_ofR (fn := Try.f81) (rs := [.cell 4 50]) tyOk tyPos Try.func81 (by kernel_rfl) rfl rfl (by rw [Try.ntmps81]; exact Nat.le_of_ble_eq_true rfl) rfl (by simp only [szA, List.mem_cons, List.not_mem_nil, or_false, forall_eq_or_imp, forall_eq, VT.cells, szL]; try decide) ?_
  rw [Try.ntmps81]
  simp only [push_cast, ↓brB_true, ↓brB_false, ↓reduceIte, zA, zB, zC, zD, zE, zF, zG, zH, zI, reduceCtorEq]
  refine awp_seq' fun K hK => ?_
  refine awp_region tyOk tyPos [] rfl ?_
  all_goals simp only [push_cast, ↓brB_true, ↓brB_false, ↓reduceIte, zA, zB, zC, zD, zE, zF, zG, zH, zI, reduceCtorEq]
  all_goals repeat' (first | (apply brB_mk <;> (intro hg; (try simp only [push_cast] at hg))) | (refine ⟨_, hC, ?_⟩; simp only [push_cast, ↓brB_true, ↓brB_false, ↓reduceIte, zA, zB, zC, zD, zE, zF, zG, zH, zI, reduceCtorEq]) | apply And.intro | (intro hg; (try simp only [push_cast] at hg)))
  all_goals first | exact gA | (intro h0; omega) | skip
  all_goals first | (refine hK _ ?_; clear hK K) | (simp only [push_cast, ↓brB_true, ↓brB_false, ↓reduceIte, zA, zB, zC, zD, zE, zF, zG, zH, zI, reduceCtorEq]; done)
  refine awp_seq' fun K hK => ?_
  refine awp_region tyOk tyPos [] rfl ?_
  all_goals refine aops_cut 6 fun K9 hK9 => ?_
  all_goals simp only [push_cast, ↓brB_true, ↓brB_false, ↓reduceIte, zA, zB, zC, zD, zE, zF, zG, zH, zI, reduceCtorEq]
  all_goals repeat' (first | (apply brB_mk <;> (intro hg; (try simp only [push_cast] at hg))) | (refine ⟨_, hC, ?_⟩; simp only [push_cast, ↓brB_true, ↓brB_false, ↓reduceIte, zA, zB, zC, zD, zE, zF, zG, zH, zI, reduceCtorEq]) | apply And.intro | (intro hg; (try simp only [push_cast] at hg)))
  all_goals first | exact gA | (intro h0; omega) | skip
  all_goals first | (refine hK9 _ ?_; clear hK9 K9) | (simp only [push_cast, ↓brB_true, ↓brB_false, ↓reduceIte, zA, zB, zC, zD, zE, zF, zG, zH, zI, reduceCtorEq]; done)
  all_goals simp only [push_cast, ↓brB_true, ↓brB_false, ↓reduceIte, zA, zB, zC, zD, zE, zF, zG, zH, zI, reduceCtorEq]
  all_goals repeat' (first | (apply brB_mk <;> (intro hg; (try simp only [push_cast] at hg))) | (refine ⟨_, hC, ?_⟩; simp only [push_cast, ↓brB_true, ↓brB_false, ↓reduceIte, zA, zB, zC, zD, zE, zF, zG, zH, zI, reduceCtorEq]) | apply And.intro | (intro hg; (try simp only [push_cast] at hg)))
  all_goals first | exact gA | (intro h0; omega) | skip
  all_goals first | (refine hK _ ?_; clear hK K) | (simp only [push_cast, ↓brB_true, ↓brB_false, ↓reduceIte, zA, zB, zC, zD, zE, zF, zG, zH, zI, reduceCtorEq]; done)
  refine awp_seq' fun K hK => ?_
  refine awp_regionD1 false tyOk tyPos tyMix ?_ rfl ?_
  · kernel_rfl
  intro E hE
  all_goals simp only [push_cast, ↓brB_true, ↓brB_false, ↓reduceIte, zA, zB, zC, zD, zE, zF, zG, zH, zI, reduceCtorEq]
  all_goals repeat' (first | (apply brB_mk <;> (intro hg; (try simp only [push_cast] at hg))) | (refine ⟨_, hC, ?_⟩; simp only [push_cast, ↓brB_true, ↓brB_false, ↓reduceIte, zA, zB, zC, zD, zE, zF, zG, zH, zI, reduceCtorEq]) | apply And.intro | (intro hg; (try simp only [push_cast] at hg)))
  all_goals first | exact gA | (refine hE _ _ ?_ ?_; kernel_rfl) | (intro h0; omega) | skip
  all_goals clear hE E
  all_goals first | (refine hK _ ?_; clear hK K) | (simp only [push_cast, ↓brB_true, ↓brB_false, ↓reduceIte, zA, zB, zC, zD, zE, zF, zG, zH, zI, reduceCtorEq]; done)
  refine awp_ret ?_
  (try simp only [AThen, ABlk])
  refine ⟨Or.inl rfl, ?_⟩
  simp only [RetOk, resVars, resVar, push_cast, ↓brB_true, ↓brB_false, ↓reduceIte, zA, zB, zC, zD, zE, zF, zG, zH, zI, reduceCtorEq]
set_option maxRecDepth 20000 in
set_option maxHeartbeats 4000000 in
theorem isMean_fn (w : Wt) (ha : w.Ln 1048576) : Fn Try.prog tyT 72 [.agg (dWt w)] [.c (.bool (meanB w))] := by
  have hW := isWeighted_fn w ha
  have hcl := ha.cost.1
  unfold dWt at hW ⊢
  refine Fn_of (fn := Try.f72) (ts := [2]) Try.func72 (by kernel_rfl) rfl rfl (by rw [Try.ntmps72]; exact Nat.le_of_ble_eq_true rfl) rfl (by simp only [szA, List.mem_cons, List.not_mem_nil, or_false, forall_eq_or_imp, forall_eq, VT.cells, szL]; try decide) ?_
  rw [Try.ntmps72]
  simp only [push_cast, ↓brB_true, ↓brB_false, ↓reduceIte, zA, zB, zC, zD, zE, zF, zG, zH, zI, reduceCtorEq]
  refine awp_seq' fun K hK => ?_
  refine awp_region tyOk tyPos [] rfl ?_
  simp only [push_cast, ↓brB_true, ↓brB_false, ↓reduceIte, zA, zB, zC, zD, zE, zF, zG, zH, zI, reduceCtorEq]
  repeat' apply And.intro
  all_goals try exact gB
  all_goals first | (refine hK _ ?_; clear hK K) | (simp only [push_cast]; done)
  refine awp_seq' fun K hK => ?_
  refine awp_regionN false tyOk tyPos ?_ rfl ?_
  · kernel_rfl
  all_goals refine seqE_cut 2 fun K9 hK9 => ?_
  all_goals simp only [push_cast, ↓brB_true, ↓brB_false, ↓reduceIte, zA, zB, zC, zD, zE, zF, zG, zH, zI, reduceCtorEq]
  all_goals repeat' (first | (apply brB_mk <;> (intro hg; (try simp only [push_cast] at hg))) | (refine ⟨_, hW, ?_⟩; simp only [push_cast, ↓brB_true, ↓brB_false, ↓reduceIte, zA, zB, zC, zD, zE, zF, zG, zH, zI, reduceCtorEq]) | apply And.intro | (intro hg; (try simp only [push_cast] at hg)))
  all_goals try exact gA
  all_goals first | (refine hK9 _ ?_; clear hK9 K9) | (simp only [push_cast, ↓brB_true, ↓brB_false, ↓reduceIte, zA, zB, zC, zD, zE, zF, zG, zH, zI, reduceCtorEq]; done)
  all_goals simp only [push_cast, ↓brB_true, ↓brB_false, ↓reduceIte, zA, zB, zC, zD, zE, zF, zG, zH, zI, reduceCtorEq]
  all_goals repeat' (first | (apply brB_mk <;> (intro hg; (try simp only [push_cast] at hg))) | (refine ⟨_, hW, ?_⟩; simp only [push_cast, ↓brB_true, ↓brB_false, ↓reduceIte, zA, zB, zC, zD, zE, zF, zG, zH, zI, reduceCtorEq]) | apply And.intro | (intro hg; (try simp only [push_cast] at hg)))
  all_goals try exact gA
  all_goals first | (refine hK _ ?_; clear hK K) | (simp only [push_cast, ↓brB_true, ↓brB_false, ↓reduceIte, zA, zB, zC, zD, zE, zF, zG, zH, zI, reduceCtorEq]; done)
  all_goals (
      refine awp_ret ?_
      (try simp only [AThen, ABlk])
      refine ⟨Or.inl rfl, ?_⟩
      simp only [RetOk, push_cast, ↓brB_true, ↓brB_false, ↓reduceIte, zA, zB, zC, zD, zE, zF, zG, zH, zI, reduceCtorEq]
      unfold meanB
      first | (rw [show weightedB w = true from by with_reducible assumption, Bool.true_and]; exact decide_eq_decide.2 (by omega)) | (rw [show weightedB w = false from by with_reducible assumption, Bool.false_and]))
set_option maxRecDepth 20000 in
set_option maxHeartbeats 4000000 in
theorem LoopMeanI_fn (w : Wt) (l : Ls) (ha : w.Ln 1048576) (hl : l.Ln 1048576) : Fn Try.prog tyT 32 [.agg (dWt w), .agg (dLs l)] [.agg (dFr (meanRes w l))] := by
  have hno := ha.a.owner
  have hlp := hl.loop
  have hst := hl.stem
  unfold LnI at hno hlp hst
  have hM := isMean_fn w ha
  have hLo := fun h => isLasso_fn w.a l ha.a hl h
  have hSu := fun hw hlas => loopSum_fn w l ha hl hw hlas
  have hFr := fracOf_fn
  unfold dAr dLs at hLo
  unfold dWt at hM hSu ⊢
  unfold dLs at hSu ⊢
  unfold dFr at hFr ⊢
  refine Fn_ofR (fn := Try.f32) (rs := [.cell 4 50]) tyOk tyPos Try.func32 (by kernel_rfl) rfl rfl (by rw [Try.ntmps32]; exact Nat.le_of_ble_eq_true rfl) rfl (by simp only [szA, List.mem_cons, List.not_mem_nil, or_false, forall_eq_or_imp, forall_eq, VT.cells, szL]; try decide) ?_
  rw [Try.ntmps32]
  simp only [push_cast, ↓brB_true, ↓brB_false, ↓reduceIte, zA, zB, zC, zD, zE, zF, zG, zH, zI, reduceCtorEq]
  refine awp_seq' fun K hK => ?_
  refine awp_region tyOk tyPos [] rfl ?_
  simp only [push_cast, ↓brB_true, ↓brB_false, ↓reduceIte, zA, zB, zC, zD, zE, zF, zG, zH, zI, reduceCtorEq]
  repeat' apply And.intro
  all_goals try exact gB
  all_goals first | (refine hK _ ?_; clear hK K) | (simp only [push_cast]; done)
  refine awp_seq' fun K1 hK1 => ?_
  refine awp_seq' fun K hK => ?_
  refine awp_regionN false tyOk tyPos ?_ rfl ?_
  · kernel_rfl
  all_goals refine seqE_cut 2 fun K9 hK9 => ?_
  all_goals simp only [push_cast, ↓brB_true, ↓brB_false, ↓reduceIte, zA, zB, zC, zD, zE, zF, zG, zH, zI, reduceCtorEq]
  all_goals repeat' (first | (apply brB_mk <;> (intro hg; (try simp only [push_cast] at hg))) | (refine ⟨_, hM, ?_⟩; simp only [push_cast, ↓brB_true, ↓brB_false, ↓reduceIte, zA, zB, zC, zD, zE, zF, zG, zH, zI, reduceCtorEq]) | (refine ⟨_, hLo (weighted_facts (meanB_ok (by with_reducible assumption))).1, ?_⟩; simp only [push_cast, ↓brB_true, ↓brB_false, ↓reduceIte, zA, zB, zC, zD, zE, zF, zG, zH, zI, reduceCtorEq]) | (refine ⟨_, hSu hw hlas, ?_⟩; simp only [push_cast, ↓brB_true, ↓brB_false, ↓reduceIte, zA, zB, zC, zD, zE, zF, zG, zH, zI, reduceCtorEq]) | (refine ⟨_, hFr _ _ ⟨by have := hlv.1; unfold loopV; omega, by have := hlv.2; unfold loopV; omega⟩ (by omega), ?_⟩; simp only [push_cast, ↓brB_true, ↓brB_false, ↓reduceIte, zA, zB, zC, zD, zE, zF, zG, zH, zI, reduceCtorEq]) | apply And.intro | (intro hg; (try simp only [push_cast] at hg)))
  all_goals try exact gA
  all_goals first | (refine hK9 _ ?_; clear hK9 K9) | (simp only [push_cast, ↓brB_true, ↓brB_false, ↓reduceIte, zA, zB, zC, zD, zE, zF, zG, zH, zI, reduceCtorEq]; done)
  all_goals refine seqE_cut 6 fun K9 hK9 => ?_
  all_goals simp only [push_cast, ↓brB_true, ↓brB_false, ↓reduceIte, zA, zB, zC, zD, zE, zF, zG, zH, zI, reduceCtorEq]
  all_goals repeat' (first | (apply brB_mk <;> (intro hg; (try simp only [push_cast] at hg))) | (refine ⟨_, hM, ?_⟩; simp only [push_cast, ↓brB_true, ↓brB_false, ↓reduceIte, zA, zB, zC, zD, zE, zF, zG, zH, zI, reduceCtorEq]) | (refine ⟨_, hLo (weighted_facts (meanB_ok (by with_reducible assumption))).1, ?_⟩; simp only [push_cast, ↓brB_true, ↓brB_false, ↓reduceIte, zA, zB, zC, zD, zE, zF, zG, zH, zI, reduceCtorEq]) | (refine ⟨_, hSu hw hlas, ?_⟩; simp only [push_cast, ↓brB_true, ↓brB_false, ↓reduceIte, zA, zB, zC, zD, zE, zF, zG, zH, zI, reduceCtorEq]) | (refine ⟨_, hFr _ _ ⟨by have := hlv.1; unfold loopV; omega, by have := hlv.2; unfold loopV; omega⟩ (by omega), ?_⟩; simp only [push_cast, ↓brB_true, ↓brB_false, ↓reduceIte, zA, zB, zC, zD, zE, zF, zG, zH, zI, reduceCtorEq]) | apply And.intro | (intro hg; (try simp only [push_cast] at hg)))
  all_goals try exact gA
  all_goals first | (refine hK9 _ ?_; clear hK9 K9) | (simp only [push_cast, ↓brB_true, ↓brB_false, ↓reduceIte, zA, zB, zC, zD, zE, zF, zG, zH, zI, reduceCtorEq]; done)
  all_goals simp only [push_cast, ↓brB_true, ↓brB_false, ↓reduceIte, zA, zB, zC, zD, zE, zF, zG, zH, zI, reduceCtorEq]
  all_goals repeat' (first | (apply brB_mk <;> (intro hg; (try simp only [push_cast] at hg))) | (refine ⟨_, hM, ?_⟩; simp only [push_cast, ↓brB_true, ↓brB_false, ↓reduceIte, zA, zB, zC, zD, zE, zF, zG, zH, zI, reduceCtorEq]) | (refine ⟨_, hLo (weighted_facts (meanB_ok (by with_reducible assumption))).1, ?_⟩; simp only [push_cast, ↓brB_true, ↓brB_false, ↓reduceIte, zA, zB, zC, zD, zE, zF, zG, zH, zI, reduceCtorEq]) | (refine ⟨_, hSu hw hlas, ?_⟩; simp only [push_cast, ↓brB_true, ↓brB_false, ↓reduceIte, zA, zB, zC, zD, zE, zF, zG, zH, zI, reduceCtorEq]) | (refine ⟨_, hFr _ _ ⟨by have := hlv.1; unfold loopV; omega, by have := hlv.2; unfold loopV; omega⟩ (by omega), ?_⟩; simp only [push_cast, ↓brB_true, ↓brB_false, ↓reduceIte, zA, zB, zC, zD, zE, zF, zG, zH, zI, reduceCtorEq]) | apply And.intro | (intro hg; (try simp only [push_cast] at hg)))
  all_goals try exact gA
  all_goals first | (refine hK _ ?_; clear hK K) | (simp only [push_cast, ↓brB_true, ↓brB_false, ↓reduceIte, zA, zB, zC, zD, zE, zF, zG, zH, zI, reduceCtorEq]; done)
  all_goals refine awp_cond rfl (fun hc => ?_) (fun hc => ?_)
  all_goals (first | (cases hc; done) | skip)
  all_goals (try simp only [push_cast] at hc)
  all_goals try (
      refine awp_seq' fun K hK => ?_
      refine awp_region tyOk tyPos [] rfl ?_
      simp only [push_cast, ↓brB_true, ↓brB_false, ↓reduceIte, zA, zB, zC, zD, zE, zF, zG, zH, zI, reduceCtorEq]
      repeat' apply And.intro
      all_goals try exact gB
      all_goals first | (refine hK _ ?_; clear hK K) | (simp only [push_cast]; done)
      refine awp_ret ?_
      (try simp only [AThen, ABlk])
      refine ⟨Or.inl rfl, ?_⟩
      simp only [RetOk, resVars, resVar, push_cast, ↓brB_true, ↓brB_false, ↓reduceIte, zA, zB, zC, zD, zE, zF, zG, zH, zI, reduceCtorEq]
      first | rw [meanRes_no1 (by with_reducible assumption)] | rw [meanRes_no2 (by with_reducible assumption)]
      exact ⟨rfl, rfl⟩
      done)
  refine awp_skip ?_
  (try simp only [AThen, ABlk, reduceIte, zF]); refine hK1 _ ?_
  have hmb : meanB w = true := by with_reducible assumption
  have hw := meanB_ok hmb
  have hlas : lassoB w.a l = true := by with_reducible assumption
  have hll := lassoB_len' hlas
  have hlv := loopV_le hw hlas (k := l.loop.length) (Nat.le_refl _)
  refine awp_seq' fun K hK => ?_
  refine awp_regionD1 false tyOk tyPos tyMix ?_ rfl ?_
  · kernel_rfl
  intro E hE
  all_goals refine lexF_cut 3 (by decide) fun K9 hK9 => ?_
  all_goals simp only [push_cast, ↓brB_true, ↓brB_false, ↓reduceIte, zA, zB, zC, zD, zE, zF, zG, zH, zI, reduceCtorEq]
  all_goals repeat' (first | (apply brB_mk <;> (intro hg; (try simp only [push_cast] at hg))) | (refine ⟨_, hM, ?_⟩; simp only [push_cast, ↓brB_true, ↓brB_false, ↓reduceIte, zA, zB, zC, zD, zE, zF, zG, zH, zI, reduceCtorEq]) | (refine ⟨_, hLo (weighted_facts (meanB_ok (by with_reducible assumption))).1, ?_⟩; simp only [push_cast, ↓brB_true, ↓brB_false, ↓reduceIte, zA, zB, zC, zD, zE, zF, zG, zH, zI, reduceCtorEq]) | (refine ⟨_, hSu hw hlas, ?_⟩; simp only [push_cast, ↓brB_true, ↓brB_false, ↓reduceIte, zA, zB, zC, zD, zE, zF, zG, zH, zI, reduceCtorEq]) | (refine ⟨_, hFr _ _ ⟨by have := hlv.1; unfold loopV; omega, by have := hlv.2; unfold loopV; omega⟩ (by omega), ?_⟩; simp only [push_cast, ↓brB_true, ↓brB_false, ↓reduceIte, zA, zB, zC, zD, zE, zF, zG, zH, zI, reduceCtorEq]) | apply And.intro | (intro hg; (try simp only [push_cast] at hg)))
  all_goals try exact gA
  all_goals first | (refine hK9 _ _ ?_; clear hK9 K9) | (simp only [push_cast, ↓brB_true, ↓brB_false, ↓reduceIte, zA, zB, zC, zD, zE, zF, zG, zH, zI, reduceCtorEq]; done)
  all_goals refine lexF_cut 4 (by decide) fun K9 hK9 => ?_
  all_goals simp only [push_cast, ↓brB_true, ↓brB_false, ↓reduceIte, zA, zB, zC, zD, zE, zF, zG, zH, zI, reduceCtorEq]
  all_goals repeat' (first | (apply brB_mk <;> (intro hg; (try simp only [push_cast] at hg))) | (refine ⟨_, hM, ?_⟩; simp only [push_cast, ↓brB_true, ↓brB_false, ↓reduceIte, zA, zB, zC, zD, zE, zF, zG, zH, zI, reduceCtorEq]) | (refine ⟨_, hLo (weighted_facts (meanB_ok (by with_reducible assumption))).1, ?_⟩; simp only [push_cast, ↓brB_true, ↓brB_false, ↓reduceIte, zA, zB, zC, zD, zE, zF, zG, zH, zI, reduceCtorEq]) | (refine ⟨_, hSu hw hlas, ?_⟩; simp only [push_cast, ↓brB_true, ↓brB_false, ↓reduceIte, zA, zB, zC, zD, zE, zF, zG, zH, zI, reduceCtorEq]) | (refine ⟨_, hFr _ _ ⟨by have := hlv.1; unfold loopV; omega, by have := hlv.2; unfold loopV; omega⟩ (by omega), ?_⟩; simp only [push_cast, ↓brB_true, ↓brB_false, ↓reduceIte, zA, zB, zC, zD, zE, zF, zG, zH, zI, reduceCtorEq]) | apply And.intro | (intro hg; (try simp only [push_cast] at hg)))
  all_goals try exact gA
  all_goals first | (refine hK9 _ _ ?_; clear hK9 K9) | (simp only [push_cast, ↓brB_true, ↓brB_false, ↓reduceIte, zA, zB, zC, zD, zE, zF, zG, zH, zI, reduceCtorEq]; done)
  all_goals simp only [push_cast, ↓brB_true, ↓brB_false, ↓reduceIte, zA, zB, zC, zD, zE, zF, zG, zH, zI, reduceCtorEq]
  all_goals repeat' (first | (apply brB_mk <;> (intro hg; (try simp only [push_cast] at hg))) | (refine ⟨_, hM, ?_⟩; simp only [push_cast, ↓brB_true, ↓brB_false, ↓reduceIte, zA, zB, zC, zD, zE, zF, zG, zH, zI, reduceCtorEq]) | (refine ⟨_, hLo (weighted_facts (meanB_ok (by with_reducible assumption))).1, ?_⟩; simp only [push_cast, ↓brB_true, ↓brB_false, ↓reduceIte, zA, zB, zC, zD, zE, zF, zG, zH, zI, reduceCtorEq]) | (refine ⟨_, hSu hw hlas, ?_⟩; simp only [push_cast, ↓brB_true, ↓brB_false, ↓reduceIte, zA, zB, zC, zD, zE, zF, zG, zH, zI, reduceCtorEq]) | (refine ⟨_, hFr _ _ ⟨by have := hlv.1; unfold loopV; omega, by have := hlv.2; unfold loopV; omega⟩ (by omega), ?_⟩; simp only [push_cast, ↓brB_true, ↓brB_false, ↓reduceIte, zA, zB, zC, zD, zE, zF, zG, zH, zI, reduceCtorEq]) | apply And.intro | (intro hg; (try simp only [push_cast] at hg)))
  all_goals first | exact gA | (refine hE _ _ ?_ ?_; kernel_rfl) | skip
  all_goals clear hE E
  all_goals first | (refine hK _ ?_; clear hK K) | (simp only [push_cast, ↓brB_true, ↓brB_false, ↓reduceIte, zA, zB, zC, zD, zE, zF, zG, zH, zI, reduceCtorEq]; done)
  refine awp_ret ?_
  (try simp only [AThen, ABlk])
  refine ⟨Or.inl rfl, ?_⟩
  simp only [RetOk, resVars, resVar, push_cast, ↓brB_true, ↓brB_false, ↓reduceIte, zA, zB, zC, zD, zE, zF, zG, zH, zI, reduceCtorEq]
  rw [meanRes_yes hmb hlas]
  exact ⟨rfl, rfl⟩
end Go.Proofs.Ytdbecmmeifdafaa

namespace Go.Proofs.Ytdbecmmeifdafaa.MV
open Go.RowKit
set_option linter.unusedVariables false
set_option linter.unusedSimpArgs false

def optB (mx : Bool) (f : Nat → Int) : Nat → Int
  | 0 => 0
  | 1 => f 0
  | k + 2 => if (mx = true ∧ f (k + 1) > optB mx f (k + 1)) ∨ (mx = false ∧ f (k + 1) < optB mx f (k + 1)) then f (k + 1) else optB mx f (k + 1)
theorem optB_s (mx : Bool) (f : Nat → Int) (k : Nat) : optB mx f (k + 2) = if (mx = true ∧ f (k + 1) > optB mx f (k + 1)) ∨ (mx = false ∧ f (k + 1) < optB mx f (k + 1)) then f (k + 1) else optB mx f (k + 1) := rfl
theorem optB_ex (mx : Bool) (f : Nat → Int) : ∀ k, 1 ≤ k → ∃ j, j < k ∧ optB mx f k = f j
  | 1, _ => ⟨0, by omega, rfl⟩
  | k + 2, _ => by
    obtain ⟨j, hj, he⟩ := optB_ex mx f (k + 1) (by omega)
    rw [optB_s]
    split
    · exact ⟨k + 1, by omega, rfl⟩
    · exact ⟨j, by omega, he⟩
theorem optB_max (f : Nat → Int) : ∀ k j, j < k → f j ≤ optB true f k
  | 0, j, h => by omega
  | 1, j, h => by have : j = 0 := by omega
                  subst this; exact Int.le_refl _
  | k + 2, j, h => by
    rw [optB_s]
    have ih := optB_max f (k + 1)
    simp only [true_and, Bool.true_eq_false, false_and, or_false]
    by_cases hj : j = k + 1
    · subst hj; split <;> omega
    · have := ih j (by omega); split <;> omega
theorem optB_neg (mx : Bool) (f : Nat → Int) : ∀ k, optB (!mx) (fun j => -f j) k = -optB mx f k
  | 0 => rfl
  | 1 => rfl
  | k + 2 => by
    rw [optB_s, optB_s, optB_neg mx f (k + 1)]
    cases mx <;> simp only [Bool.not_true, Bool.not_false, true_and, Bool.true_eq_false, Bool.false_eq_true, false_and, or_false, false_or] <;> split <;> split <;> omega
theorem optB_min (f : Nat → Int) (k j : Nat) (h : j < k) : optB false f k ≤ f j := by
  have h1 := optB_max (fun j => -f j) k j h
  have h2 := optB_neg false f k
  simp only [Bool.not_false] at h2
  rw [h2] at h1
  omega

structure Gm where
  mx : Nat → Bool
  deg : Nat → Nat
  to : Nat → Nat → Nat
  c : Nat → Nat → Int
def Gm.dual (g : Gm) : Gm := ⟨fun v => !g.mx v, g.deg, g.to, fun v j => -g.c v j⟩
structure Gm.Ok (g : Gm) (n : Nat) (W : Int) : Prop where
  deg : ∀ v, v < n → 1 ≤ g.deg v
  to : ∀ v, v < n → ∀ j, j < g.deg v → g.to v j < n
  lo : ∀ v, v < n → ∀ j, j < g.deg v → -W ≤ g.c v j
  hi : ∀ v, v < n → ∀ j, j < g.deg v → g.c v j ≤ W
theorem Gm.Ok.dual {g : Gm} {n : Nat} {W : Int} (h : g.Ok n W) : g.dual.Ok n W :=
  ⟨h.deg, h.to, fun v hv j hj => by have := h.hi v hv j hj; show -W ≤ -g.c v j; omega, fun v hv j hj => by have := h.lo v hv j hj; show -g.c v j ≤ W; omega⟩

def Gm.pay (g : Gm) : Nat → Nat → Int
  | 0, _ => 0
  | k + 1, v => optB (g.mx v) (fun j => g.c v j + g.pay k (g.to v j)) (g.deg v)
theorem Gm.pay_dual (g : Gm) : ∀ k v, g.dual.pay k v = -g.pay k v
  | 0, v => rfl
  | k + 1, v => by
    show optB (!g.mx v) (fun j => -g.c v j + g.dual.pay k (g.to v j)) (g.deg v) = -optB (g.mx v) (fun j => g.c v j + g.pay k (g.to v j)) (g.deg v)
    rw [← optB_neg]
    congr 1
    funext j
    rw [g.pay_dual k]
    omega

def less (x y : Int × Int) : Prop := x.1 * y.2 < y.1 * x.2
instance (x y : Int × Int) : Decidable (less x y) := by unfold less; exact inferInstance
def optF (mx : Bool) (f : Nat → Int × Int) : Nat → Int × Int
  | 0 => (0, 1)
  | 1 => f 0
  | k + 2 => if (mx = true ∧ less (optF mx f (k + 1)) (f (k + 1))) ∨ (mx = false ∧ less (f (k + 1)) (optF mx f (k + 1))) then f (k + 1) else optF mx f (k + 1)
theorem optF_s (mx : Bool) (f : Nat → Int × Int) (k : Nat) : optF mx f (k + 2) = if (mx = true ∧ less (optF mx f (k + 1)) (f (k + 1))) ∨ (mx = false ∧ less (f (k + 1)) (optF mx f (k + 1))) then f (k + 1) else optF mx f (k + 1) := rfl
theorem optF_ex (mx : Bool) (f : Nat → Int × Int) : ∀ k, 1 ≤ k → ∃ j, j < k ∧ optF mx f k = f j
  | 1, _ => ⟨0, by omega, rfl⟩
  | k + 2, _ => by
    obtain ⟨j, hj, he⟩ := optF_ex mx f (k + 1) (by omega)
    rw [optF_s]
    split
    · exact ⟨k + 1, by omega, rfl⟩
    · exact ⟨j, by omega, he⟩
def neg (x : Int × Int) : Int × Int := (-x.1, x.2)
theorem less_neg (x y : Int × Int) : less (neg x) (neg y) ↔ less y x := by
  unfold less neg
  simp only [Int.neg_mul]
  omega
theorem optF_neg (mx : Bool) (f : Nat → Int × Int) : ∀ k, optF (!mx) (fun j => neg (f j)) k = neg (optF mx f k)
  | 0 => rfl
  | 1 => rfl
  | k + 2 => by
    rw [optF_s, optF_s, optF_neg mx f (k + 1)]
    simp only [less_neg]
    cases mx <;> simp only [Bool.not_true, Bool.not_false, true_and, Bool.true_eq_false, Bool.false_eq_true, false_and, or_false, false_or] <;> split <;> rfl
def atL (m x : Int × Int) : Prop := m.1 * x.2 ≤ x.1 * m.2
theorem atL_of_not_less {m x y : Int × Int} (hx : 0 < x.2) (hy : 0 < y.2) (hm : 0 < m.2) (h : ¬ less x y) (ha : atL m y) : atL m x := by
  unfold less at h
  unfold atL at *
  have h1 : y.1 * x.2 ≤ x.1 * y.2 := by omega
  -- m1 * y2 ≤ y1 * m2 ; times x2 ; y1 * x2 ≤ x1 * y2 ; times m2
  have h2 : m.1 * y.2 * x.2 ≤ y.1 * m.2 * x.2 := Int.mul_le_mul_of_nonneg_right ha (by omega)
  have h3 : y.1 * x.2 * m.2 ≤ x.1 * y.2 * m.2 := Int.mul_le_mul_of_nonneg_right h1 (by omega)
  have e1 : y.1 * m.2 * x.2 = y.1 * x.2 * m.2 := by rw [Int.mul_assoc, Int.mul_comm m.2, ← Int.mul_assoc]
  have e2 : m.1 * y.2 * x.2 = (m.1 * x.2) * y.2 := by rw [Int.mul_assoc, Int.mul_comm y.2, ← Int.mul_assoc]
  have e3 : x.1 * y.2 * m.2 = (x.1 * m.2) * y.2 := by rw [Int.mul_assoc, Int.mul_comm y.2, ← Int.mul_assoc]
  rw [e1] at h2
  rw [e2] at h2
  rw [e3] at h3
  exact Int.le_of_mul_le_mul_right (Int.le_trans h2 h3) hy
theorem atL_of_less {m x y : Int × Int} (hx : 0 < x.2) (hy : 0 < y.2) (hm : 0 < m.2) (h : less x y) (ha : atL m x) : atL m y :=
  atL_of_not_less hy hx hm (by unfold less at *; omega) ha
theorem optF_atL_all {m : Int × Int} {f : Nat → Int × Int} (hm : 0 < m.2) : ∀ k, (∀ j, j < k → 0 < (f j).2) → atL m (optF false f k) → ∀ j, j < k → atL m (f j)
  | 0, _, _, j, h => by omega
  | 1, _, ha, j, h => by
    have : j = 0 := by omega
    subst this; exact ha
  | k + 2, hp, ha, j, h => by
    have ih := optF_atL_all hm (k + 1) (fun j hj => hp j (by omega))
    obtain ⟨i, hi, he⟩ := optF_ex false f (k + 1) (by omega)
    rw [optF_s] at ha
    simp only [true_and, Bool.false_eq_true, false_and, false_or] at ha
    have hpo : 0 < (optF false f (k + 1)).2 := by rw [he]; exact hp i (by omega)
    split at ha
    · rename_i hl
      have hb : atL m (optF false f (k + 1)) := atL_of_less (hp _ (by omega)) hpo hm hl ha
      by_cases hj : j = k + 1
      · subst hj; exact ha
      · exact ih hb j (by omega)
    · rename_i hn
      by_cases hj : j = k + 1
      · subst hj
        exact atL_of_not_less (hp _ (by omega)) hpo hm hn ha
      · exact ih ha j (by omega)

def findS (v : Nat) : List (Nat × Int) → Nat → Option (Nat × Int)
  | [], _ => none
  | (u, s) :: S, i => if u = v then some (i, s) else findS v S (i + 1)
def Gm.first (g : Gm) : Nat → List (Nat × Int) → Nat → Int → Int × Int
  | 0, _, _, _ => (0, 1)
  | f + 1, S, v, s =>
    match findS v S 0 with
    | some (i, s0) => (s - s0, (i : Int) + 1)
    | none => optF (g.mx v) (fun j => g.first f ((v, s) :: S) (g.to v j) (s + g.c v j)) (g.deg v)
def negS (S : List (Nat × Int)) : List (Nat × Int) := S.map fun x => (x.1, -x.2)
theorem findS_neg (v : Nat) : ∀ (S : List (Nat × Int)) (i : Nat), findS v (negS S) i = (findS v S i).map fun x => (x.1, -x.2)
  | [], i => rfl
  | (u, s) :: S, i => by
    show (if u = v then some (i, -s) else findS v (negS S) (i + 1)) = ((if u = v then some (i, s) else findS v S (i + 1)).map fun x => (x.1, -x.2))
    rw [findS_neg v S (i + 1)]
    split <;> rfl
theorem Gm.first_dual (g : Gm) : ∀ f S v s, g.dual.first f (negS S) v (-s) = neg (g.first f S v s)
  | 0, S, v, s => rfl
  | f + 1, S, v, s => by
    unfold Gm.first
    rw [findS_neg]
    cases hf : findS v S 0 with
    | some x =>
      obtain ⟨i, s0⟩ := x
      show (-s - -s0, (i : Int) + 1) = neg (s - s0, (i : Int) + 1)
      unfold neg
      simp only
      congr 1
      omega
    | none =>
      show optF (!g.mx v) (fun j => g.dual.first f ((v, -s) :: negS S) (g.to v j) (-s + -g.c v j)) (g.deg v) = neg (optF (g.mx v) _ (g.deg v))
      rw [← optF_neg]
      congr 1
      funext j
      rw [← g.first_dual f ((v, s) :: S) (g.to v j) (s + g.c v j)]
      show _ = g.dual.first f ((v, -s) :: negS S) (g.to v j) (-(s + g.c v j))
      congr 1
      omega

theorem findS_some {v : Nat} : ∀ {S : List (Nat × Int)} {i k : Nat} {s0 : Int}, findS v S i = some (k, s0) → ∃ j, k = i + j ∧ S[j]? = some (v, s0)
  | [], i, k, s0, h => by simp [findS] at h
  | (u, s) :: S, i, k, s0, h => by
    simp only [findS] at h
    split at h
    · rename_i e; subst e; cases h; exact ⟨0, rfl, rfl⟩
    · obtain ⟨j, h1, h2⟩ := findS_some h
      exact ⟨j + 1, by omega, by simpa using h2⟩
theorem findS_none {v : Nat} : ∀ {S : List (Nat × Int)} {i : Nat}, findS v S i = none → v ∉ S.map (·.1)
  | [], i, h => by simp
  | (u, s) :: S, i, h => by
    simp only [findS] at h
    split at h
    · cases h
    · rename_i e
      simp only [List.map_cons, List.mem_cons, not_or]
      exact ⟨fun h => e h.symm, findS_none h⟩

inductive Way (n : Nat) (W : Int) : List (Nat × Int) → Nat → Int → Prop
  | nil {v : Nat} : v < n → Way n W [] v 0
  | cons {S : List (Nat × Int)} {u : Nat} {r : Int} {v : Nat} {s : Int} : Way n W S u r → u ∉ S.map (·.1) → v < n → s ≤ r + W → r - W ≤ s → Way n W ((u, r) :: S) v s
theorem Way.lt {n : Nat} {W : Int} {S : List (Nat × Int)} {v : Nat} {s : Int} (h : Way n W S v s) : v < n := by cases h <;> assumption
theorem Way.mem {n : Nat} {W : Int} {S : List (Nat × Int)} {v : Nat} {s : Int} (h : Way n W S v s) : (S.map (·.1)).Nodup ∧ ∀ x ∈ S.map (·.1), x < n := by
  induction h with
  | nil _ => simp
  | cons h1 h2 h3 h4 h5 ih =>
    simp only [List.map_cons, List.nodup_cons]
    refine ⟨⟨h2, ih.1⟩, fun x hx => ?_⟩
    rcases List.mem_cons.1 hx with rfl | hx
    · exact h1.lt
    · exact ih.2 x hx
theorem nodup_len : ∀ (n : Nat) (l : List Nat), l.Nodup → (∀ x ∈ l, x < n) → l.length ≤ n
  | 0, l, _, h => by
    cases l with
    | nil => simp
    | cons x l => have := h x (by simp); omega
  | n + 1, l, hd, h => by
    have h1 : (l.filter (fun x => x ≠ n)).length ≤ n := nodup_len n _ (hd.filter _) fun x hx => by
      have := List.mem_filter.1 hx
      have h2 := h x this.1
      have h3 : x ≠ n := by simpa using this.2
      omega
    have h2 : l.length ≤ (l.filter (fun x => x ≠ n)).length + 1 := by
      clear h1 h
      induction l with
      | nil => simp
      | cons x l ih =>
        rw [List.nodup_cons] at hd
        by_cases hx : x = n
        · subst hx
          have : l.filter (fun y => y ≠ x) = l := List.filter_eq_self.2 fun y hy => by
            have : y ≠ x := fun e => hd.1 (e ▸ hy)
            simpa using this
          rw [List.filter_cons_of_neg (by simp), this]
          simp
        · rw [List.filter_cons_of_pos (by simpa using hx)]
          have := ih hd.2
          simp only [List.length_cons]
          omega
    omega
theorem Way.len {n : Nat} {W : Int} {S : List (Nat × Int)} {v : Nat} {s : Int} (h : Way n W S v s) : S.length ≤ n := by
  have := nodup_len n _ h.mem.1 h.mem.2
  simpa using this
theorem Way.len' {n : Nat} {W : Int} {S : List (Nat × Int)} {v : Nat} {s : Int} (h : Way n W S v s) (hv : v ∉ S.map (·.1)) : S.length + 1 ≤ n := by
  have := nodup_len n (v :: S.map (·.1)) (by rw [List.nodup_cons]; exact ⟨hv, h.mem.1⟩) fun x hx => by
    rcases List.mem_cons.1 hx with rfl | hx
    · exact h.lt
    · exact h.mem.2 x hx
  simpa using this
theorem Way.sum {n : Nat} {W : Int} {S : List (Nat × Int)} {v : Nat} {s : Int} (h : Way n W S v s) : -(S.length * W) ≤ s ∧ s ≤ S.length * W := by
  induction h with
  | nil _ => simp
  | cons h1 h2 h3 h4 h5 ih =>
    simp only [List.length_cons, Int.natCast_add, Int.add_mul, Int.natCast_one, Int.one_mul]
    omega
theorem Way.back {n : Nat} {W : Int} {S : List (Nat × Int)} {v : Nat} {s : Int} (h : Way n W S v s) : ∀ {j : Nat} {u : Nat} {r : Int}, S[j]? = some (u, r) → Way n W (S.drop (j + 1)) u r ∧ u ∉ (S.drop (j + 1)).map (·.1) ∧ s - r ≤ (j + 1) * W ∧ -((j + 1) * W) ≤ s - r := by
  induction h with
  | nil _ => intro j u r h; simp at h
  | @cons S u r v s h1 h2 h3 h4 h5 ih =>
    intro j u' r' h
    cases j with
    | zero =>
      simp at h
      obtain ⟨rfl, rfl⟩ := h
      simp only [List.drop_succ_cons, List.drop_zero]
      exact ⟨h1, h2, by omega, by omega⟩
    | succ j =>
      simp at h
      obtain ⟨k1, k2, k3, k4⟩ := ih h
      refine ⟨by simpa using k1, by simpa using k2, ?_, ?_⟩ <;>
      · simp only [Int.natCast_add, Int.add_mul, Int.natCast_one, Int.one_mul] at *
        omega

theorem Gm.first_ok {g : Gm} {n : Nat} {W : Int} (hg : g.Ok n W) : ∀ f S v s, Way n W S v s → n + 1 ≤ f + S.length → 1 ≤ f → 1 ≤ (g.first f S v s).2 ∧ (g.first f S v s).2 ≤ n ∧ (g.first f S v s).1 ≤ (g.first f S v s).2 * W ∧ -((g.first f S v s).2 * W) ≤ (g.first f S v s).1
  | 0, S, v, s, hw, h, h1 => by omega
  | f + 1, S, v, s, hw, h, h1 => by
    unfold Gm.first
    cases hf : findS v S 0 with
    | some x =>
      obtain ⟨i, s0⟩ := x
      obtain ⟨j, hj, hS⟩ := findS_some hf
      obtain ⟨-, -, k3, k4⟩ := hw.back hS
      have hlt : j < S.length := (List.getElem?_eq_some_iff.1 hS).1
      have := hw.len
      have hij : i = j := by omega
      subst hij
      exact ⟨by simp only; omega, by simp only; omega, k3, k4⟩
    | none =>
      have hv := findS_none hf
      have hl := hw.len' hv
      obtain ⟨j, hj, he⟩ := optF_ex (g.mx v) (fun j => g.first f ((v, s) :: S) (g.to v j) (s + g.c v j)) (g.deg v) (hg.deg v hw.lt)
      simp only
      rw [he]
      have h2 := hg.lo v hw.lt j hj
      have h3 := hg.hi v hw.lt j hj
      exact g.first_ok hg f ((v, s) :: S) (g.to v j) (s + g.c v j) (.cons hw hv (hg.to v hw.lt j hj) (by omega) (by omega)) (by simp only [List.length_cons]; omega) (by omega)

inductive Good (g : Gm) (n : Nat) (m : Int × Int) : List (Nat × Int) → Nat → Int → Prop
  | nil {v : Nat} : atL m (g.first (n + 1) [] v 0) → Good g n m [] v 0
  | cons {S : List (Nat × Int)} {u : Nat} {r : Int} {v : Nat} {s : Int} : Good g n m S u r → atL m (g.first (n + 1 - (S.length + 1)) ((u, r) :: S) v s) → Good g n m ((u, r) :: S) v s
theorem Good.here {g : Gm} {n : Nat} {m : Int × Int} {S : List (Nat × Int)} {v : Nat} {s : Int} (h : Good g n m S v s) : atL m (g.first (n + 1 - S.length) S v s) := by
  cases h with
  | nil h => exact h
  | cons h1 h2 => exact h2
theorem Good.back {g : Gm} {n : Nat} {m : Int × Int} {S : List (Nat × Int)} {v : Nat} {s : Int} (h : Good g n m S v s) : ∀ {j : Nat} {u : Nat} {r : Int}, S[j]? = some (u, r) → Good g n m (S.drop (j + 1)) u r := by
  induction h with
  | nil _ => intro j u r h; simp at h
  | cons h1 h2 ih =>
    intro j u' r' h
    cases j with
    | zero =>
      simp at h
      obtain ⟨rfl, rfl⟩ := h
      simpa using h1
    | succ j =>
      simp at h
      simpa using ih h
theorem Gm.step_good {g : Gm} {n : Nat} {W : Int} {m : Int × Int} (hg : g.Ok n W) (hm : 0 < m.2) {S : List (Nat × Int)} {v : Nat} {s : Int} (hw : Way n W S v s) (hv : v ∉ S.map (·.1)) (hgd : Good g n m S v s) (k : Nat) :
    ∃ j, j < g.deg v ∧ g.c v j + g.pay k (g.to v j) ≤ g.pay (k + 1) v ∧ atL m (g.first (n + 1 - (S.length + 1)) ((v, s) :: S) (g.to v j) (s + g.c v j)) := by
  have hl := hw.len' hv
  have h0 := hgd.here
  have hf : n + 1 - S.length = (n + 1 - (S.length + 1)) + 1 := by omega
  rw [hf] at h0
  unfold Gm.first at h0
  have hn : findS v S 0 = none := by
    cases h : findS v S 0 with
    | none => rfl
    | some x =>
      obtain ⟨i, s0⟩ := x
      obtain ⟨j, -, hS⟩ := findS_some h
      exact absurd (List.mem_map.2 ⟨_, List.mem_of_getElem? hS, rfl⟩) hv
  rw [hn] at h0
  simp only at h0
  have hpos : ∀ j, j < g.deg v → 0 < (g.first (n + 1 - (S.length + 1)) ((v, s) :: S) (g.to v j) (s + g.c v j)).2 := fun j hj => by
    have h2 := hg.lo v hw.lt j hj
    have h3 := hg.hi v hw.lt j hj
    have := (g.first_ok hg (n + 1 - (S.length + 1)) ((v, s) :: S) (g.to v j) (s + g.c v j) (.cons hw hv (hg.to v hw.lt j hj) (by omega) (by omega)) (by simp only [List.length_cons]; omega) (by omega)).1
    omega
  cases hmx : g.mx v with
  | true =>
    rw [hmx] at h0
    obtain ⟨j, hj, he⟩ := optF_ex true (fun j => g.first (n + 1 - (S.length + 1)) ((v, s) :: S) (g.to v j) (s + g.c v j)) (g.deg v) (hg.deg v hw.lt)
    rw [he] at h0
    refine ⟨j, hj, ?_, h0⟩
    show _ ≤ optB (g.mx v) (fun j => g.c v j + g.pay k (g.to v j)) (g.deg v)
    rw [hmx]
    exact optB_max (fun j => g.c v j + g.pay k (g.to v j)) (g.deg v) j hj
  | false =>
    rw [hmx] at h0
    obtain ⟨j, hj, he⟩ := optB_ex false (fun j => g.c v j + g.pay k (g.to v j)) (g.deg v) (hg.deg v hw.lt)
    refine ⟨j, hj, ?_, optF_atL_all hm _ hpos h0 j hj⟩
    show _ ≤ optB (g.mx v) (fun j => g.c v j + g.pay k (g.to v j)) (g.deg v)
    rw [hmx, he]
    exact Int.le_refl _
theorem Gm.pay_ge {g : Gm} {n : Nat} {W : Int} {m : Int × Int} (hg : g.Ok n W) (hW : 0 ≤ W) (hm : 0 < m.2) (hm1 : m.1 ≤ m.2 * W) (hm2 : -(m.2 * W) ≤ m.1) : ∀ k S v s, Way n W S v s → v ∉ S.map (·.1) → Good g n m S v s →
    k * m.1 - (m.2 * s - S.length * m.1) - 2 * (((n : Int) - 1) * (m.2 * W)) ≤ m.2 * g.pay k v
  | 0, S, v, s, hw, hv, hgd => by
    have hl := hw.len' hv
    have h1 := hw.sum
    show (0 : Nat) * m.1 - (m.2 * s - S.length * m.1) - 2 * (((n : Int) - 1) * (m.2 * W)) ≤ m.2 * 0
    have h2 : m.2 * -(S.length * W) ≤ m.2 * s := Int.mul_le_mul_of_nonneg_left h1.1 (by omega)
    have h3 : (S.length : Int) * m.1 ≤ S.length * (m.2 * W) := Int.mul_le_mul_of_nonneg_left hm1 (by omega)
    have hmw : 0 ≤ m.2 * W := Int.mul_nonneg (by omega) hW
    have h4 : (S.length : Int) * (m.2 * W) ≤ ((n : Int) - 1) * (m.2 * W) := Int.mul_le_mul_of_nonneg_right (by omega) hmw
    have h5 : m.2 * -(S.length * W) = -((S.length : Int) * (m.2 * W)) := by
      rw [Int.mul_neg, ← Int.mul_assoc, Int.mul_comm m.2, Int.mul_assoc]
    rw [h5] at h2
    simp only [Int.natCast_zero, Int.zero_mul, Int.mul_zero]
    omega
  | k + 1, S, v, s, hw, hv, hgd => by
    have hl := hw.len' hv
    obtain ⟨j, hj, hp, ha⟩ := g.step_good hg hm hw hv hgd k
    have h2 := hg.lo v hw.lt j hj
    have h3 := hg.hi v hw.lt j hj
    have hw' : Way n W ((v, s) :: S) (g.to v j) (s + g.c v j) := .cons hw hv (hg.to v hw.lt j hj) (by omega) (by omega)
    have hp2 : m.2 * (g.c v j + g.pay k (g.to v j)) ≤ m.2 * g.pay (k + 1) v := Int.mul_le_mul_of_nonneg_left hp (by omega)
    rw [Int.mul_add] at hp2
    cases hf : findS (g.to v j) ((v, s) :: S) 0 with
    | none =>
      have ih := g.pay_ge hg hW hm hm1 hm2 k _ _ _ hw' (findS_none hf) (.cons hgd ha)
      rw [List.length_cons, Int.mul_add] at ih
      simp only [Int.natCast_add, Int.natCast_one, Int.add_mul, Int.one_mul] at ih ⊢
      omega
    | some x =>
      obtain ⟨i, s0⟩ := x
      obtain ⟨i', hi', hS⟩ := findS_some hf
      have : i = i' := by omega
      subst this
      obtain ⟨k1, k2, -, -⟩ := hw'.back hS
      have k3 := Good.back (.cons hgd ha) hS
      have ih := g.pay_ge hg hW hm hm1 hm2 k _ _ _ k1 k2 k3
      have hlt : i < S.length + 1 := by have := (List.getElem?_eq_some_iff.1 hS).1; simpa using this
      have hF : n + 1 - (S.length + 1) = (n - (S.length + 1)) + 1 := by omega
      rw [hF] at ha
      unfold Gm.first at ha
      rw [hf] at ha
      simp only at ha
      unfold atL at ha
      simp only at ha
      have hd : (((v, s) :: S).drop (i + 1)).length = S.length + 1 - (i + 1) := by rw [List.length_drop]; simp
      rw [hd] at ih
      have hc : ((S.length + 1 - (i + 1) : Nat) : Int) = (S.length : Int) - i := by omega
      rw [hc] at ih
      have e1 : m.1 * ((i : Int) + 1) = i * m.1 + m.1 := by rw [Int.mul_add, Int.mul_one, Int.mul_comm]
      have e2 : (s + g.c v j - s0) * m.2 = m.2 * s + m.2 * g.c v j - m.2 * s0 := by rw [Int.mul_comm, Int.mul_sub, Int.mul_add]
      rw [e1, e2] at ha
      simp only [Int.natCast_add, Int.natCast_one, Int.add_mul, Int.sub_mul, Int.one_mul] at ih ⊢
      omega

def Gm.val (g : Gm) (n : Nat) (v : Nat) : Int × Int := g.first (n + 1) [] v 0
theorem Gm.val_ok {g : Gm} {n : Nat} {W : Int} (hg : g.Ok n W) {v : Nat} (hv : v < n) : 1 ≤ (g.val n v).2 ∧ (g.val n v).2 ≤ n ∧ (g.val n v).1 ≤ (g.val n v).2 * W ∧ -((g.val n v).2 * W) ≤ (g.val n v).1 :=
  g.first_ok hg (n + 1) [] v 0 (.nil hv) (by simp) (by omega)
theorem Gm.val_ge {g : Gm} {n : Nat} {W : Int} (hg : g.Ok n W) (hW : 0 ≤ W) {v : Nat} (hv : v < n) (k : Nat) : k * (g.val n v).1 - 2 * (((n : Int) - 1) * ((g.val n v).2 * W)) ≤ (g.val n v).2 * g.pay k v := by
  have h := g.val_ok hg hv
  have := g.pay_ge hg hW (m := g.val n v) (by omega) h.2.2.1 h.2.2.2 k [] v 0 (.nil hv) (by simp) (.nil (Int.le_refl _))
  simpa using this
theorem Gm.val_dual (g : Gm) (n v : Nat) : g.dual.val n v = neg (g.val n v) := g.first_dual (n + 1) [] v 0
theorem Gm.val_le {g : Gm} {n : Nat} {W : Int} (hg : g.Ok n W) (hW : 0 ≤ W) {v : Nat} (hv : v < n) (k : Nat) : (g.val n v).2 * g.pay k v ≤ k * (g.val n v).1 + 2 * (((n : Int) - 1) * ((g.val n v).2 * W)) := by
  have h := Gm.val_ge hg.dual hW hv k
  rw [g.val_dual, g.pay_dual] at h
  unfold neg at h
  simp only [Int.mul_neg] at h
  omega
theorem frOf_eq {a b c e : Int} (hb : 1 ≤ b) (he : 1 ≤ e) (h : a * e = c * b) : frOf a b = frOf c e := by
  have hg : (Int.gcd a b : Int) * e = Int.gcd c e * b := by
    have h1 : Int.gcd (a * e) (b * e) = Int.gcd a b * e.natAbs := Int.gcd_mul_right ..
    have h2 : Int.gcd (c * b) (e * b) = Int.gcd c e * b.natAbs := Int.gcd_mul_right ..
    rw [h, Int.mul_comm b e, h2] at h1
    have h3 : (e.natAbs : Int) = e := Int.natAbs_of_nonneg (by omega)
    have h4 : (b.natAbs : Int) = b := Int.natAbs_of_nonneg (by omega)
    have h5 : ((Int.gcd c e * b.natAbs : Nat) : Int) = ((Int.gcd a b * e.natAbs : Nat) : Int) := by rw [h1]
    simp only [Int.natCast_mul, h3, h4] at h5
    exact h5.symm
  have hg0 : 0 < (Int.gcd a b : Int) := by
    have : Int.gcd a b ≠ 0 := fun h0 => by rw [Int.gcd_eq_zero_iff] at h0; omega
    omega
  have hh0 : 0 < (Int.gcd c e : Int) := by
    have : Int.gcd c e ≠ 0 := fun h0 => by rw [Int.gcd_eq_zero_iff] at h0; omega
    omega
  obtain ⟨a', ha⟩ := Int.gcd_dvd_left (a := a) (b := b)
  obtain ⟨b', hb'⟩ := Int.gcd_dvd_right (a := a) (b := b)
  obtain ⟨c', hc⟩ := Int.gcd_dvd_left (a := c) (b := e)
  obtain ⟨e', he'⟩ := Int.gcd_dvd_right (a := c) (b := e)
  unfold frOf
  generalize (Int.gcd a b : Int) = g at *
  generalize (Int.gcd c e : Int) = k at *
  subst ha hb' hc he'
  have e1 : e' = b' := by
    have : (g * k) * e' = (g * k) * b' := by rw [Int.mul_assoc, hg, Int.mul_comm g k, Int.mul_assoc]
    exact Int.eq_of_mul_eq_mul_left (Int.ne_of_gt (Int.mul_pos hg0 hh0)) this
  subst e1
  have hpos : 0 < e' := by
    rcases Int.lt_or_le 0 e' with h' | h'
    · exact h'
    · have : k * e' ≤ 0 := Int.mul_nonpos_of_nonneg_of_nonpos (by omega) h'
      omega
  have e2 : a' = c' := by
    have h1 : (g * k * e') * a' = (g * k * e') * c' := by
      have e3 : g * a' * (k * e') = (g * k * e') * a' := by ac_rfl
      have e4 : k * c' * (g * e') = (g * k * e') * c' := by ac_rfl
      rw [← e3, ← e4]; exact h
    exact Int.eq_of_mul_eq_mul_left (Int.ne_of_gt (Int.mul_pos (Int.mul_pos hg0 hh0) hpos)) h1
  subst e2
  rw [Int.mul_tdiv_cancel_left _ (by omega), Int.mul_tdiv_cancel_left _ (by omega), Int.mul_tdiv_cancel_left _ (by omega), Int.mul_tdiv_cancel_left _ (by omega)]
theorem near_same {x S n W p q p0 q0 e : Int} (hn : 1 ≤ n) (hW : 1 ≤ W) (hq : 1 ≤ q) (hqn : q ≤ n) (hq0 : 1 ≤ q0) (hq0n : q0 ≤ n) (he : 0 ≤ e) (hS : (e + 2 * ((n - 1) * W)) * (n * n) < S)
    (h1 : x * q - p * S ≤ e * q) (h2 : -(e * q) ≤ x * q - p * S) (h3 : q0 * x ≤ S * p0 + 2 * ((n - 1) * (q0 * W))) (h4 : S * p0 - 2 * ((n - 1) * (q0 * W)) ≤ q0 * x) : p * q0 = p0 * q := by
  have g1 : (x * q - p * S) * q0 ≤ (e * q) * q0 := Int.mul_le_mul_of_nonneg_right h1 (by omega)
  have g2 : -(e * q) * q0 ≤ (x * q - p * S) * q0 := Int.mul_le_mul_of_nonneg_right h2 (by omega)
  have g3 : (q0 * x) * q ≤ (S * p0 + 2 * ((n - 1) * (q0 * W))) * q := Int.mul_le_mul_of_nonneg_right h3 (by omega)
  have g4 : (S * p0 - 2 * ((n - 1) * (q0 * W))) * q ≤ (q0 * x) * q := Int.mul_le_mul_of_nonneg_right h4 (by omega)
  have a1 : (x * q - p * S) * q0 = (q0 * x) * q - S * (p * q0) := by rw [Int.sub_mul]; congr 1 <;> ac_rfl
  have a2 : (S * p0 + 2 * ((n - 1) * (q0 * W))) * q = S * (p0 * q) + 2 * ((n - 1) * W) * (q * q0) := by rw [Int.add_mul]; congr 1 <;> ac_rfl
  have a3 : (S * p0 - 2 * ((n - 1) * (q0 * W))) * q = S * (p0 * q) - 2 * ((n - 1) * W) * (q * q0) := by rw [Int.sub_mul]; congr 1 <;> ac_rfl
  have a4 : (e * q) * q0 = e * (q * q0) := by ac_rfl
  have a5 : -(e * q) * q0 = -(e * (q * q0)) := by rw [Int.neg_mul, a4]
  rw [a1, a4] at g1
  rw [a1, a5] at g2
  rw [a2] at g3
  rw [a3] at g4
  have b1 : q * q0 ≤ n * n := Int.mul_le_mul hqn hq0n (by omega) (by omega)
  have b0 : 0 ≤ 2 * ((n - 1) * W) := Int.mul_nonneg (by omega) (Int.mul_nonneg (by omega) (by omega))
  have b2 : (e + 2 * ((n - 1) * W)) * (q * q0) ≤ (e + 2 * ((n - 1) * W)) * (n * n) := Int.mul_le_mul_of_nonneg_left b1 (by omega)
  rw [Int.add_mul] at b2
  have c1 : S * (p * q0) - S * (p0 * q) < S := by omega
  have c2 : S * (p0 * q) - S * (p * q0) < S := by omega
  rw [← Int.mul_sub] at c1 c2
  have hSp : 0 < S := by
    have : 0 ≤ (e + 2 * ((n - 1) * W)) * (n * n) := Int.mul_nonneg (by omega) (Int.mul_nonneg (by omega) (by omega))
    omega
  have d1 : p * q0 - p0 * q < 1 := by
    rcases Int.lt_or_le (p * q0 - p0 * q) 1 with h | h
    · exact h
    · have := Int.mul_le_mul_of_nonneg_left h (c := S) (by omega)
      omega
  have d2 : p0 * q - p * q0 < 1 := by
    rcases Int.lt_or_le (p0 * q - p * q0) 1 with h | h
    · exact h
    · have := Int.mul_le_mul_of_nonneg_left h (c := S) (by omega)
      omega
  omega
theorem small {n W q : Int} (hn : 1 ≤ n) (hW : 1 ≤ W) (hq : 1 ≤ q) (hqn : q ≤ n) : 0 ≤ (n - 1) * (q * W) ∧ (n - 1) * (q * W) ≤ n * n * n * W - W ∧ 2 * ((n - 1) * W) * (n * n) = 2 * (n * n * n * W) - 2 * (n * n * W) ∧ W ≤ n * n * W ∧ (2 * n * W) * (n * n) = 2 * (n * n * n * W) ∧ n * n * W ≤ n * n * n * W := by
  have h0 : 0 ≤ (n - 1) * (q * W) := Int.mul_nonneg (by omega) (Int.mul_nonneg (by omega) (by omega))
  have h1 : q * W ≤ n * W := Int.mul_le_mul_of_nonneg_right hqn (by omega)
  have h2 : (n - 1) * (q * W) ≤ (n - 1) * (n * W) := Int.mul_le_mul_of_nonneg_left h1 (by omega)
  have e1 : (n - 1) * (n * W) = n * n * W - n * W := by rw [Int.sub_mul, Int.one_mul]; congr 1; ac_rfl
  have h3 : 1 * W ≤ n * W := Int.mul_le_mul_of_nonneg_right hn (by omega)
  have h4 : 1 * (n * W) ≤ n * (n * W) := Int.mul_le_mul_of_nonneg_right hn (by omega)
  have e4 : n * (n * W) = n * n * W := by ac_rfl
  have h5 : 1 * (n * n * W) ≤ n * (n * n * W) := Int.mul_le_mul_of_nonneg_right hn (Int.mul_nonneg (Int.mul_nonneg (by omega) (by omega)) (by omega))
  have e5 : n * (n * n * W) = n * n * n * W := by ac_rfl
  have e2 : 2 * ((n - 1) * W) * (n * n) = 2 * (n * n * n * W) - 2 * (n * n * W) := by
    rw [Int.sub_mul, Int.one_mul, Int.mul_sub, Int.sub_mul]; congr 1 <;> ac_rfl
  have e3 : (2 * n * W) * (n * n) = 2 * (n * n * n * W) := by ac_rfl
  omega

theorem accept_same {x n W p q p0 q0 : Int} (hn : 1 ≤ n) (hW : 1 ≤ W) (hq : 1 ≤ q) (hqn : q ≤ n) (hq0 : 1 ≤ q0) (hq0n : q0 ≤ n)
    (h1 : x * q - p * (4 * (n * n * n * W) + 1) ≤ (2 * n * W) * q) (h2 : -((2 * n * W) * q) ≤ x * q - p * (4 * (n * n * n * W) + 1))
    (h3 : q0 * x ≤ (4 * (n * n * n * W) + 1) * p0 + 2 * ((n - 1) * (q0 * W))) (h4 : (4 * (n * n * n * W) + 1) * p0 - 2 * ((n - 1) * (q0 * W)) ≤ q0 * x) : frOf p q = frOf p0 q0 := by
  have hs := small hn hW hq0 hq0n
  refine frOf_eq hq hq0 (near_same hn hW hq hqn hq0 hq0n (Int.mul_nonneg (Int.mul_nonneg (by omega) (by omega)) (by omega)) ?_ h1 h2 h3 h4)
  rw [Int.add_mul]
  omega
theorem accept_mean {x n W p0 q0 : Int} (hn : 1 ≤ n) (hW : 1 ≤ W) (hq0 : 1 ≤ q0) (hq0n : q0 ≤ n)
    (h3 : q0 * x ≤ (4 * (n * n * n * W) + 1) * p0 + 2 * ((n - 1) * (q0 * W))) (h4 : (4 * (n * n * n * W) + 1) * p0 - 2 * ((n - 1) * (q0 * W)) ≤ q0 * x) :
    (x * q0 - p0 * (4 * (n * n * n * W) + 1) ≤ (2 * n * W) * q0 ∧ -((2 * n * W) * q0) ≤ x * q0 - p0 * (4 * (n * n * n * W) + 1)) ∧ (x * q0).tdiv (4 * (n * n * n * W) + 1) - 1 ≤ p0 ∧ p0 ≤ (x * q0).tdiv (4 * (n * n * n * W) + 1) + 1 := by
  have hs := small hn hW hq0 hq0n
  have e1 : (2 * n * W) * q0 = 2 * ((n - 1) * (q0 * W)) + 2 * (q0 * W) := by
    rw [Int.sub_mul, Int.mul_sub, Int.one_mul]
    have : 2 * n * W * q0 = 2 * (n * (q0 * W)) := by ac_rfl
    omega
  have e0 : 0 ≤ q0 * W := Int.mul_nonneg (by omega) (by omega)
  rw [Int.mul_comm x q0, Int.mul_comm p0]
  refine ⟨⟨by omega, by omega⟩, ?_⟩
  generalize hS : 4 * (n * n * n * W) + 1 = S at *
  generalize q0 * x = y at *
  have hSp : 0 < S := by omega
  -- |y - S * p0| < S
  have b1 : y - S * p0 < S := by omega
  have b2 : S * p0 - y < S := by omega
  have t1 := Int.mul_tdiv_add_tmod y S
  have t2 : (y.tmod S).natAbs < S.natAbs := by
    rw [Int.natAbs_tmod]
    exact Nat.mod_lt _ (by omega)
  generalize y.tdiv S = t at *
  generalize y.tmod S = r at *
  have c1 : S * t - S * p0 < 2 * S := by omega
  have c2 : S * p0 - S * t < 2 * S := by omega
  rw [← Int.mul_sub] at c1 c2
  constructor
  · rcases Int.lt_or_le (t - p0) 2 with h | h
    · omega
    · have := Int.mul_le_mul_of_nonneg_left h (c := S) (by omega)
      omega
  · rcases Int.lt_or_le (p0 - t) 2 with h | h
    · omega
    · have := Int.mul_le_mul_of_nonneg_left h (c := S) (by omega)
      omega
end Go.Proofs.Ytdbecmmeifdafaa.MV

namespace Go.Proofs.Ytdbecmmeifdafaa
open Go.RowKit
set_option linter.unusedVariables false
set_option linter.unusedSimpArgs false

def toE (w : Wt) (v j : Nat) : Nat := (gi (gl w.a.next v) j).toNat
def coE (w : Wt) (v j : Nat) : Int := gi (gl w.cost v) j
def Ed (w : Wt) (b : Int) (d : List Int) (v j : Nat) (x : Int) : Prop := gi d (toE w v j) ≤ b ∧ gi d (toE w v j) - coE w v j ≤ x
theorem need0_le {w : Wt} {b : Int} {d : List Int} {v j : Nat} {x : Int} (h0 : 0 ≤ x) (hx : x ≤ b) : need0 w b d v j ≤ x ↔ Ed w b d v j x := by
  unfold need0 Ed toE coE
  split
  · constructor <;> intro h <;> omega
  · split <;> constructor <;> intro h <;> omega
theorem capB_le {b x y : Int} (hx : x ≤ b) : capB b y ≤ x ↔ y ≤ x := by
  unfold capB
  split <;> constructor <;> intro h <;> omega
theorem bestN_le0 {f : Nat → Int} (hf : ∀ j, 0 ≤ f j) {x : Int} : ∀ k, 1 ≤ k → (bestN 0 f k ≤ x ↔ ∃ j, j < k ∧ f j ≤ x)
  | 1, _ => by
    rw [bestN_1]
    exact ⟨fun h => ⟨0, by omega, h⟩, fun ⟨j, hj, h⟩ => by rw [show j = 0 by omega] at h; exact h⟩
  | k + 2, _ => by
    have ih := bestN_le0 (f := f) hf (x := x) (k + 1) (by omega)
    have h0 := bestN_nn (o := 0) hf (k + 1) (by omega)
    have h1 : (∃ j, j < k + 2 ∧ f j ≤ x) ↔ (∃ j, j < k + 1 ∧ f j ≤ x) ∨ f (k + 1) ≤ x := by
      constructor
      · rintro ⟨j, hj, h⟩
        rcases Nat.lt_or_ge j (k + 1) with h2 | h2
        · exact .inl ⟨j, h2, h⟩
        · right; rw [show k + 1 = j by omega]; exact h
      · rintro (⟨j, hj, h⟩ | h)
        · exact ⟨j, by omega, h⟩
        · exact ⟨k + 1, by omega, h⟩
    rw [h1, ← ih, bestN_s 0 f (k + 1)]
    split <;> constructor <;> intro h <;> omega
theorem bestN_le1 {f : Nat → Int} (hf : ∀ j, 0 ≤ f j) {x : Int} : ∀ k, 1 ≤ k → (bestN 1 f k ≤ x ↔ ∀ j, j < k → f j ≤ x)
  | 1, _ => by
    rw [bestN_1]
    exact ⟨fun h j hj => by rw [show j = 0 by omega]; exact h, fun h => h 0 (by omega)⟩
  | k + 2, _ => by
    have ih := bestN_le1 (f := f) hf (x := x) (k + 1) (by omega)
    have h0 := bestN_nn (o := 1) hf (k + 1) (by omega)
    have h1 : (∀ j, j < k + 2 → f j ≤ x) ↔ (∀ j, j < k + 1 → f j ≤ x) ∧ f (k + 1) ≤ x := by
      constructor
      · exact fun h => ⟨fun j hj => h j (by omega), h _ (by omega)⟩
      · rintro ⟨h, h2⟩ j hj
        rcases Nat.lt_or_ge j (k + 1) with h3 | h3
        · exact h j h3
        · rw [show j = k + 1 by omega]; exact h2
    rw [h1, ← ih, bestN_s 1 f (k + 1)]
    split <;> constructor <;> intro h <;> omega
theorem stepT_le {w : Wt} (hw : WSh w) {b : Int} (hb : 0 ≤ b) {d : List Int} {v : Nat} (hv : v < w.a.owner.length) {x : Int} (h0 : 0 ≤ x) (hx : x ≤ b) :
    stepT w b d v ≤ x ↔ (gi w.a.owner v = 0 → ∃ j, j < (gl w.a.next v).length ∧ Ed w b d v j x) ∧ (gi w.a.owner v = 1 → ∀ j, j < (gl w.a.next v).length → Ed w b d v j x) := by
  have hr := (hw.row v hv).2.1
  unfold stepT
  rw [capB_le hx]
  rcases hw.own v hv with e | e <;> rw [e]
  · rw [bestN_le0 (fun j => need0_nn hb) _ hr]
    constructor
    · rintro ⟨j, hj, h⟩
      exact ⟨fun _ => ⟨j, hj, (need0_le h0 hx).1 h⟩, fun h' => absurd h' (by decide)⟩
    · rintro ⟨h, -⟩
      obtain ⟨j, hj, h⟩ := h rfl
      exact ⟨j, hj, (need0_le h0 hx).2 h⟩
  · rw [bestN_le1 (fun j => need0_nn hb) _ hr]
    constructor
    · exact fun h => ⟨fun h' => absurd h' (by decide), fun _ j hj => (need0_le h0 hx).1 (h j hj)⟩
    · exact fun h j hj => (need0_le h0 hx).2 (h.2 rfl j hj)
theorem worstI_all : ∀ {r : List Int} {m : Int}, m ≤ worstI m r ∧ ∀ x ∈ r, -x ≤ worstI m r
  | [], m => ⟨Int.le_refl _, fun x hx => by simp at hx⟩
  | c :: r, m => by
    have ih := worstI_all (r := r) (m := if -c > m then -c else m)
    unfold worstI
    refine ⟨?_, fun x hx => ?_⟩
    · have := ih.1; split at this <;> rename_i e <;> simp only [e, if_true, if_false] <;> omega
    · rcases List.mem_cons.1 hx with rfl | hx
      · have := ih.1; split at this <;> rename_i e <;> simp only [e, if_true, if_false] <;> omega
      · exact ih.2 x hx
theorem worstR_all : ∀ {rs : List (List Int)} {m : Int}, m ≤ worstR m rs ∧ ∀ r ∈ rs, ∀ x ∈ r, -x ≤ worstR m rs
  | [], m => ⟨Int.le_refl _, fun x hx => by simp at hx⟩
  | r :: rs, m => by
    have ih := worstR_all (rs := rs) (m := worstI m r)
    have h1 := worstI_all (r := r) (m := m)
    unfold worstR
    refine ⟨Int.le_trans h1.1 ih.1, fun s hs x hx => ?_⟩
    rcases List.mem_cons.1 hs with rfl | hs
    · exact Int.le_trans (h1.2 x hx) ih.1
    · exact ih.2 s hs x hx
theorem coE_ge {w : Wt} (hw : WSh w) {v j : Nat} (hv : v < w.a.owner.length) (hj : j < (gl w.a.next v).length) : -coE w v j ≤ worstR 0 w.cost := by
  have h1 := (hw.row v hv).1
  refine (worstR_all (rs := w.cost) (m := 0)).2 (gl w.cost v) ?_ (coE w v j) ?_
  · unfold gl
    rw [List.getD_eq_getElem?_getD, List.getElem?_eq_getElem (by rw [hw.cl]; exact hv)]
    exact List.getElem_mem _
  · unfold coE gi
    rw [List.getD_eq_getElem?_getD, List.getElem?_eq_getElem (by rw [h1]; exact hj)]
    exact List.getElem_mem _
def tabL (n : Nat) (f : Nat → Int) : List Int := (List.range n).map f
theorem tabL_len (n : Nat) (f : Nat → Int) : (tabL n f).length = n := by simp [tabL]
theorem tabL_at {n : Nat} {f : Nat → Int} {v : Nat} (h : v < n) : gi (tabL n f) v = f v := by
  unfold gi tabL
  rw [List.getD_eq_getElem?_getD, List.getElem?_map, List.getElem?_range h]
  rfl
theorem nodup_mapR {f : Nat → Nat} : ∀ n, (∀ i j, i < j → j < n → f i ≠ f j) → ((List.range n).map f).Nodup
  | 0, _ => by simp
  | n + 1, h => by
    rw [List.range_succ, List.map_append]
    refine List.nodup_append.2 ⟨nodup_mapR n fun i j h1 h2 => h i j h1 (by omega), by simp, fun a ha b hb => ?_⟩
    obtain ⟨i, hi, rfl⟩ := List.mem_map.1 ha
    simp only [List.map_cons, List.map_nil, List.mem_singleton] at hb
    rw [hb]
    exact h i n (List.mem_range.1 hi) (by omega)
theorem window {n : Nat} {c : Nat → Int} {W : Int} (hW : 0 ≤ W) {v : Nat} (hv : v < n) (hc : ((n : Int) - 1) * W < c v) : ∃ i : Nat, i < n ∧ ∀ u, u < n → c u ≤ ((i : Int) - 1) * W ∨ (i : Int) * W + 1 ≤ c u := by
  refine Classical.byContradiction fun hno => ?_
  have h1 : ∀ i : Nat, i < n → ∃ u, u < n ∧ ((i : Int) - 1) * W < c u ∧ c u ≤ (i : Int) * W := fun i hi => by
    refine Classical.byContradiction fun h2 => hno ⟨i, hi, fun u hu => ?_⟩
    rcases Int.lt_or_le (((i : Int) - 1) * W) (c u) with h3 | h3
    · rcases Int.lt_or_le ((i : Int) * W) (c u) with h4 | h4
      · exact .inr (by omega)
      · exact absurd ⟨u, hu, h3, h4⟩ h2
    · exact .inl h3
  have h2 : ∀ i : Nat, ∃ u, i < n → u < n ∧ ((i : Int) - 1) * W < c u ∧ c u ≤ (i : Int) * W := fun i => by
    by_cases hi : i < n
    · obtain ⟨u, h⟩ := h1 i hi; exact ⟨u, fun _ => h⟩
    · exact ⟨0, fun h => absurd h hi⟩
  let f : Nat → Nat := fun i => Classical.choose (h2 i)
  have hf : ∀ i, i < n → f i < n ∧ ((i : Int) - 1) * W < c (f i) ∧ c (f i) ≤ (i : Int) * W := fun i => Classical.choose_spec (h2 i)
  have hm : ∀ a b : Int, a ≤ b → a * W ≤ b * W := fun a b h => Int.mul_le_mul_of_nonneg_right h hW
  have hnd : ((List.range n).map f).Nodup := nodup_mapR n fun i j hij hj e => by
    have ha := hf i (by omega)
    have hb := hf j hj
    rw [e] at ha
    have := hm i (j - 1) (by omega)
    omega
  have hnv : v ∉ (List.range n).map f := fun hvm => by
    obtain ⟨i, hi, e⟩ := List.mem_map.1 hvm
    have hi := List.mem_range.1 hi
    have ha := hf i hi
    rw [e] at ha
    have := hm i (n - 1) (by omega)
    omega
  have := MV.nodup_len n (v :: (List.range n).map f) (List.nodup_cons.2 ⟨hnv, hnd⟩) fun x hx => by
    rcases List.mem_cons.1 hx with rfl | hx
    · exact hv
    · obtain ⟨i, hi, rfl⟩ := List.mem_map.1 hx
      exact (hf i (List.mem_range.1 hi)).1
  simp only [List.length_cons, List.length_map, List.length_range] at this
  omega
theorem least_gap {w : Wt} (hw : WSh w) {b : Int} (hb : boundW w ≤ b) {c : List Int} (hL : Least w b c) {v : Nat} (hv : v < w.a.owner.length) (h : gi c v ≤ b) : gi c v ≤ boundW w := by
  have hb0 : 0 ≤ b := Int.le_trans hw.bound.1 hb
  have hW := (worstR_all (rs := w.cost) (m := 0)).1
  refine Classical.byContradiction fun hno => ?_
  have hno : ((w.a.owner.length : Int) - 1) * worstR 0 w.cost < gi c v := by unfold boundW at hno; omega
  obtain ⟨i, hi, hwin⟩ := window (c := gi c) hW hv hno
  have hmul : ((i : Int) - 1) * worstR 0 w.cost = (i : Int) * worstR 0 w.cost - worstR 0 w.cost := by rw [Int.sub_mul, Int.one_mul]
  have hge : (i : Int) * worstR 0 w.cost ≤ ((w.a.owner.length : Int) - 1) * worstR 0 w.cost := Int.mul_le_mul_of_nonneg_right (by omega) hW
  have hi0 : 0 ≤ (i : Int) * worstR 0 w.cost := Int.mul_nonneg (by omega) hW
  rw [hmul] at hwin
  generalize hM : (i : Int) * worstR 0 w.cost = M at *
  generalize hWW : worstR 0 w.cost = W at *
  let d := tabL w.a.owner.length fun u => if M + 1 ≤ gi c u ∧ gi c u ≤ b then gi c u - 1 else gi c u
  have hd : ∀ u, u < w.a.owner.length → gi d u = if M + 1 ≤ gi c u ∧ gi c u ≤ b then gi c u - 1 else gi c u := fun u hu => tabL_at hu
  have hpre : PreC w b d := by
    refine ⟨tabL_len _ _, fun u hu => ?_, fun u hu => ?_⟩
    · have := hL.rg u hu
      rw [hd u hu]
      split <;> omega
    · have hr := hL.rg u hu
      rcases Int.lt_or_le b (gi c u) with h1 | h1
      · have := (stepT_rg hw hb0 (c := d) hu).2
        rw [hd u hu, if_neg (by omega)]
        omega
      · have hdu0 : 0 ≤ gi d u := by rw [hd u hu]; split <;> omega
        have hdub : gi d u ≤ b := by rw [hd u hu]; split <;> omega
        have hed : ∀ j, j < (gl w.a.next u).length → Ed w b c u j (gi c u) → Ed w b d u j (gi d u) := fun j hj he => by
          have ht := hw.to u hu j hj
          have hc1 := coE_ge hw hu hj
          rw [hWW] at hc1
          have htn : toE w u j < w.a.owner.length := by unfold toE; omega
          have hwt := hwin _ htn
          obtain ⟨e1, e2⟩ := he
          have hdt := hd _ htn
          have hdu := hd u hu
          unfold Ed
          split at hdt <;> split at hdu <;> omega
        have hs := (stepT_le hw hb0 hu hr.1 h1).1 (hL.pre u hu)
        refine (stepT_le hw hb0 hu hdu0 hdub).2 ⟨fun e => ?_, fun e j hj => hed j hj (hs.2 e j hj)⟩
        obtain ⟨j, hj, he⟩ := hs.1 e
        exact ⟨j, hj, hed j hj he⟩
  have h3 := hL.low d hpre v hv
  rw [hd v hv, if_pos (by omega)] at h3
  omega
theorem least_half {w : Wt} (hw : WSh w) {b1 b2 : Int} (h1 : boundW w ≤ b1) (h2 : boundW w ≤ b2) {c1 c2 : List Int} (L1 : Least w b1 c1) (L2 : Least w b2 c2) {v : Nat} (hv : v < w.a.owner.length) (h : gi c2 v ≤ b2) : gi c1 v ≤ gi c2 v := by
  have hb0 := hw.bound.1
  let d := tabL w.a.owner.length fun u => if gi c2 u ≤ b2 then gi c2 u else b1 + 1
  have hd : ∀ u, u < w.a.owner.length → gi d u = if gi c2 u ≤ b2 then gi c2 u else b1 + 1 := fun u hu => tabL_at hu
  have hg := fun u (hu : u < w.a.owner.length) => least_gap hw h2 L2 hu
  have hpre : PreC w b1 d := by
    refine ⟨tabL_len _ _, fun u hu => ?_, fun u hu => ?_⟩
    · have := L2.rg u hu
      have := hg u hu
      rw [hd u hu]
      split <;> omega
    · have hr := L2.rg u hu
      rw [hd u hu]
      split
      · rename_i e
        have hs := (stepT_le hw (by omega) hu hr.1 e).1 (L2.pre u hu)
        have hgu := hg u hu e
        have hed : ∀ j, j < (gl w.a.next u).length → Ed w b2 c2 u j (gi c2 u) → Ed w b1 d u j (gi c2 u) := fun j hj he => by
          have ht := hw.to u hu j hj
          have htn : toE w u j < w.a.owner.length := by unfold toE; omega
          obtain ⟨e1, e2⟩ := he
          have := hg _ htn e1
          unfold Ed
          rw [hd _ htn, if_pos e1]
          omega
        refine (stepT_le hw (by omega) hu hr.1 (by omega)).2 ⟨fun e => ?_, fun e j hj => hed j hj (hs.2 e j hj)⟩
        obtain ⟨j, hj, he⟩ := hs.1 e
        exact ⟨j, hj, hed j hj he⟩
      · exact (stepT_rg hw (by omega) hu).2
  have h3 := L1.low d hpre v hv
  rwa [hd v hv, if_pos h] at h3
theorem least_dec {w : Wt} (hw : WSh w) {b1 b2 : Int} (h1 : boundW w ≤ b1) (h2 : boundW w ≤ b2) {c1 c2 : List Int} (L1 : Least w b1 c1) (L2 : Least w b2 c2) {v : Nat} (hv : v < w.a.owner.length) : decB b1 (gi c1 v) = decB b2 (gi c2 v) := by
  have a := least_half hw h1 h2 L1 L2 hv
  have e := least_half hw h2 h1 L2 L1 hv
  have g1 := least_gap hw h1 L1 hv
  have g2 := least_gap hw h2 L2 hv
  unfold decB
  split <;> split <;> omega
end Go.Proofs.Ytdbecmmeifdafaa

namespace Go.Proofs.Ytdbecmmeifdafaa
open Go.RowKit
set_option linter.unusedVariables false
set_option linter.unusedSimpArgs false

@[reducible] def dFrs (fs : List Fr) : List D := fs.flatMap dFr
theorem m2d (n : Nat) : n * 2 / 2 = n := by omega
theorem len_dFrs (fs : List Fr) : (dFrs fs).length = fs.length * 2 := by
  induction fs with
  | nil => rfl
  | cons x fs ih => simp only [dFrs, List.flatMap_cons, List.length_append, List.length_cons] at *; rw [ih]; simp only [dFr, List.length_cons, List.length_nil]; omega
theorem app_dFrs (fs : List Fr) (x y : Int) : dFrs fs ++ [D.int .i64 x, D.int .i64 y] = dFrs (fs ++ [⟨x, y⟩]) := by simp [dFrs, dFr]
theorem take_dFrs (fs : List Fr) (n : Nat) : (dFrs fs).take (n * 2) = dFrs (fs.take n) := by
  induction fs generalizing n with
  | nil => simp [dFrs]
  | cons x fs ih =>
    cases n with
    | zero => simp [dFrs]
    | succ n =>
      have := ih n
      simp only [dFrs, List.flatMap_cons, List.take_succ_cons] at *
      rw [show (n + 1) * 2 = n * 2 + 1 + 1 from by omega]
      simp only [dFr, List.cons_append, List.nil_append, List.take_succ_cons]
      rw [this]
attribute [push_cast] m2d len_dFrs app_dFrs take_dFrs
def gf (fs : List Fr) (k : Nat) : Fr := fs.getD k ⟨0, 0⟩
theorem dFrs_at0 (fs : List Fr) (k : Nat) : (dFrs fs)[k * 2]? = if k < fs.length then some (.int .i64 (gf fs k).num) else none := by
  induction fs generalizing k with
  | nil => rfl
  | cons x fs ih =>
    cases k with
    | zero => rfl
    | succ k =>
      rw [show (k + 1) * 2 = k * 2 + 1 + 1 from by omega]
      simp only [dFrs, List.flatMap_cons, dFr, List.cons_append, List.nil_append, List.getElem?_cons_succ, List.length_cons]
      have := ih k
      simp only [dFrs] at this
      rw [this]
      simp only [gf, List.getD_cons_succ]
      split <;> split <;> first | rfl | omega
theorem dFrs_at1 (fs : List Fr) (k : Nat) : (dFrs fs)[k * 2 + 1]? = if k < fs.length then some (.int .i64 (gf fs k).den) else none := by
  induction fs generalizing k with
  | nil => rfl
  | cons x fs ih =>
    cases k with
    | zero => rfl
    | succ k =>
      rw [show (k + 1) * 2 + 1 = k * 2 + 1 + 1 + 1 from by omega]
      simp only [dFrs, List.flatMap_cons, dFr, List.cons_append, List.nil_append, List.getElem?_cons_succ, List.length_cons]
      have := ih k
      simp only [dFrs] at this
      rw [this]
      simp only [gf, List.getD_cons_succ]
      split <;> split <;> first | rfl | omega
theorem getI_dFrs0 (fs : List Fr) (k : Nat) : getI (dFrs fs) (k * 2) = (gf fs k).num := by
  unfold getI
  rw [dFrs_at0]
  split
  · rename_i h; split at h <;> cases h; rfl
  · rename_i h
    split at h
    · rename_i h2; exact absurd rfl (h _ _)
    · rename_i h2; unfold gf; rw [List.getD_eq_getElem?_getD, List.getElem?_eq_none (by omega)]; rfl
theorem getI_dFrs1 (fs : List Fr) (k : Nat) : getI (dFrs fs) (k * 2 + 1) = (gf fs k).den := by
  unfold getI
  rw [dFrs_at1]
  split
  · rename_i h; split at h <;> cases h; rfl
  · rename_i h
    split at h
    · rename_i h2; exact absurd rfl (h _ _)
    · rename_i h2; unfold gf; rw [List.getD_eq_getElem?_getD, List.getElem?_eq_none (by omega)]; rfl
theorem HasC_dFrs0 (fs : List Fr) (k : Nat) : HasC (.int .i64) (dFrs fs) (k * 2) = (k < fs.length) := by
  unfold HasC
  rw [dFrs_at0]
  apply propext
  constructor
  · rintro ⟨n, h⟩; split at h; assumption; cases h
  · intro h; rw [if_pos h]; exact ⟨_, rfl⟩
theorem HasC_dFrs1 (fs : List Fr) (k : Nat) : HasC (.int .i64) (dFrs fs) (k * 2 + 1) = (k < fs.length) := by
  unfold HasC
  rw [dFrs_at1]
  apply propext
  constructor
  · rintro ⟨n, h⟩; split at h; assumption; cases h
  · intro h; rw [if_pos h]; exact ⟨_, rfl⟩
attribute [push_cast] getI_dFrs0 getI_dFrs1 HasC_dFrs0 HasC_dFrs1
theorem set_dFrs0 (fs : List Fr) (k : Nat) (n : Int) : (dFrs fs).set (k * 2) (.int .i64 n) = dFrs (fs.set k ⟨n, (gf fs k).den⟩) := by
  induction fs generalizing k with
  | nil => simp [dFrs]
  | cons x fs ih =>
    cases k with
    | zero => simp [dFrs, dFr, gf]
    | succ k =>
      have := ih k
      rw [show (k + 1) * 2 = k * 2 + 1 + 1 from by omega]
      simp only [dFrs, List.flatMap_cons, dFr, List.cons_append, List.nil_append, List.set_cons_succ] at *
      rw [this]
      simp only [gf, List.getD_cons_succ]
theorem set_dFrs1 (fs : List Fr) (k : Nat) (n : Int) : (dFrs fs).set (k * 2 + 1) (.int .i64 n) = dFrs (fs.set k ⟨(gf fs k).num, n⟩) := by
  induction fs generalizing k with
  | nil => simp [dFrs]
  | cons x fs ih =>
    cases k with
    | zero => simp [dFrs, dFr, gf]
    | succ k =>
      have := ih k
      rw [show (k + 1) * 2 + 1 = k * 2 + 1 + 1 + 1 from by omega]
      simp only [dFrs, List.flatMap_cons, dFr, List.cons_append, List.nil_append, List.set_cons_succ] at *
      rw [this]
      simp only [gf, List.getD_cons_succ]
attribute [push_cast] set_dFrs0 set_dFrs1
end Go.Proofs.Ytdbecmmeifdafaa
