/- parity games and scores: both sides -/
import Derived.Test.YtdbecmmeifdafaaB5zbm
import Derived.Test.YtdbecmmeifdafaaB6zbm
import Derived.Test.YtdbecmmeifdafaaB4zbm
import Derived.Test.YtdbecmmeifdafaaB7zbm
import Derived.Test.YtdbecmmeifdafaaB8zbm
namespace Go.Proofs.Ytdbecmmeifdafaa
open Nat renaming reduceMod → zA, reduceMul → zB, reduceDiv → zC, reduceAdd → zD, reduceSub → zE, reduceEqDiff → zF, reduceBEq → zG, reduceLT → zH, reduceLeDiff → zI
open Go.RowKit
set_option linter.unusedVariables false
set_option linter.unusedSimpArgs false

def parityB (g : Pa) : Bool := arenaB g.a && (decide (g.prio.length = g.a.owner.length) && allB g.prio.length (fun k => decide (0 ≤ gi g.prio k ∧ gi g.prio k ≤ 40)))
theorem parityB_no1 {g : Pa} (h : arenaB g.a = false) : parityB g = false := by unfold parityB; rw [h]; rfl
theorem parityB_no2 {g : Pa} (h : ¬ g.prio.length = g.a.owner.length) : parityB g = false := by unfold parityB; rw [decide_eq_false h, Bool.false_and, Bool.and_false]
theorem parityB_no3 {g : Pa} {k : Nat} (hk : k < g.prio.length) (h : ¬ (0 ≤ gi g.prio k ∧ gi g.prio k ≤ 40)) : parityB g = false := by unfold parityB; rw [allB_false hk (decide_eq_false h), Bool.and_false, Bool.and_false]
theorem parityB_yes {g : Pa} (h1 : arenaB g.a = true) (h2 : g.prio.length = g.a.owner.length) (h3 : ∀ k, k < g.prio.length → 0 ≤ gi g.prio k ∧ gi g.prio k ≤ 40) : parityB g = true := by
  unfold parityB; rw [h1, decide_eq_true h2, allB_true fun k hk => decide_eq_true (h3 k hk)]; rfl
theorem parity_facts {g : Pa} (h : parityB g = true) : arenaB g.a = true ∧ g.prio.length = g.a.owner.length ∧ 1 ≤ g.a.owner.length ∧ g.a.owner.length ≤ 256 ∧ g.a.next.length = g.a.owner.length ∧ ∀ k, k < g.prio.length → 0 ≤ gi g.prio k ∧ gi g.prio k ≤ 40 := by
  unfold parityB at h
  rw [Bool.and_eq_true, Bool.and_eq_true, decide_eq_true_eq] at h
  have hl := arenaB_len h.1
  exact ⟨h.1, h.2.1, hl.1, hl.2.1, hl.2.2, fun k hk => of_decide_eq_true (allB_at h.2.2 hk)⟩
def pw (n : Int) : Nat → Int
  | 0 => 1
  | k + 1 => pw n k * n
def sg (n : Int) (k : Nat) : Int := if k % 2 = 1 then -pw n k else pw n k
theorem pw_pos {n : Int} (h : 1 ≤ n) : ∀ k, 1 ≤ pw n k
  | 0 => Int.le_refl _
  | k + 1 => by
    have h1 := pw_pos h k
    have : 1 * n ≤ pw n k * n := Int.mul_le_mul_of_nonneg_right h1 (by omega)
    rw [pw]; omega
theorem pw_s {n : Int} (h : 1 ≤ n) (k : Nat) : pw n k ≤ pw n (k + 1) := by
  have h1 := pw_pos h k
  have : pw n k * 1 ≤ pw n k * n := Int.mul_le_mul_of_nonneg_left h (by omega)
  rw [pw]; omega
theorem pw_mono {n : Int} (h : 1 ≤ n) {j k : Nat} (hj : j ≤ k) : pw n j ≤ pw n k := by
  induction k with
  | zero => have : j = 0 := by omega
            subst this; exact Int.le_refl _
  | succ k ih =>
    by_cases e : j = k + 1
    · subst e; exact Int.le_refl _
    · exact Int.le_trans (ih (by omega)) (pw_s h k)
theorem sg_s (n : Int) (k : Nat) : sg n (k + 1) = sg n k * -n := by
  unfold sg
  rw [pw]
  by_cases h : k % 2 = 1
  · rw [if_pos h, if_neg (by omega), Int.neg_mul_neg]
  · rw [if_neg h, if_pos (by omega), Int.mul_neg]
theorem sg_abs {n : Int} (h : 1 ≤ n) (k : Nat) : sg n k = pw n k ∨ sg n k = -pw n k := by unfold sg; split <;> simp
theorem pw_le {n : Int} (h : 1 ≤ n ∧ n ≤ 256) {k : Nat} (hk : pw n k ≤ 1000) : 1 ≤ pw n (k + 1) ∧ pw n (k + 1) ≤ 256000 := by
  refine ⟨pw_pos h.1 _, ?_⟩
  have h1 := pw_pos h.1 k
  have : pw n k * n ≤ pw n k * 256 := Int.mul_le_mul_of_nonneg_left h.2 (by omega)
  rw [pw]; omega
def scoreB (n : Int) (p : Nat) : Bool := decide (pw n p ≤ 1000)
def scoreV (n : Int) (p : Nat) : Int := if pw n p ≤ 1000 then sg n p else 0
theorem scoreB_no {n : Int} (h : 1 ≤ n) {k p : Nat} (hk : k ≤ p) (h2 : ¬ pw n k ≤ 1000) : scoreB n p = false ∧ scoreV n p = 0 := by
  have := pw_mono h hk
  unfold scoreB scoreV
  exact ⟨decide_eq_false (by omega), if_neg (by omega)⟩
theorem scoreB_yes {n : Int} {p : Nat} (h2 : pw n p ≤ 1000) : scoreB n p = true ∧ scoreV n p = sg n p := ⟨decide_eq_true h2, if_pos h2⟩
set_option maxRecDepth 20000 in
set_option maxHeartbeats 4000000 in
theorem ParityOkI_fn (g : Pa) (hg : g.Ln 1048576) : Fn Try.prog tyT 104 [.agg (dPa g)] [.c (.bool (parityB g))] := by
  have hpl := hg.prio
  have hno := hg.a.owner
  unfold LnI at hpl hno
  have hA := ArenaOkI_fn g.a hg.a
  unfold dAr at hA
  unfold dPa
  refine Fn_of (fn := Try.f104) (ts := [2]) Try.func104 (by kernel_rfl) rfl rfl (by rw [Try.ntmps104]; exact Nat.le_of_ble_eq_true rfl) rfl (by simp only [szA, List.mem_cons, List.not_mem_nil, or_false, forall_eq_or_imp, forall_eq, VT.cells, szL]; try decide) ?_
  rw [Try.ntmps104]
  simp only [push_cast, ↓brB_true, ↓brB_false, ↓reduceIte, zA, zB, zC, zD, zE, zF, zG, zH, zI, reduceCtorEq]
  refine awp_seq' fun K hK => ?_
  refine awp_region tyOk tyPos [] rfl ?_
  simp only [push_cast, ↓brB_true, ↓brB_false, ↓reduceIte, zA, zB, zC, zD, zE, zF, zG, zH, zI, reduceCtorEq]
  repeat' apply And.intro
  all_goals try exact gB
  all_goals first | (refine hK _ ?_; clear hK K) | (simp only [push_cast]; done)
  refine awp_seq' fun K1 hK1 => ?_
  refine awp_seq' fun K hK => ?_
  refine awp_regionN false tyOk tyPos ?_ rfl ?_
  · kernel_rfl
  all_goals refine seqE_cut 3 fun K9 hK9 => ?_
  all_goals simp only [push_cast, ↓brB_true, ↓brB_false, ↓reduceIte, zA, zB, zC, zD, zE, zF, zG, zH, zI, reduceCtorEq]
  all_goals repeat' (first | (apply brB_mk <;> (intro hg; (try simp only [push_cast] at hg))) | (refine ⟨_, hA, ?_⟩; simp only [push_cast, ↓brB_true, ↓brB_false, ↓reduceIte, zA, zB, zC, zD, zE, zF, zG, zH, zI, reduceCtorEq]) | apply And.intro | (intro hg; (try simp only [push_cast] at hg)))
  all_goals try exact gA
  all_goals first | (refine hK9 _ ?_; clear hK9 K9) | (simp only [push_cast]; done)
  all_goals simp only [push_cast, ↓brB_true, ↓brB_false, ↓reduceIte, zA, zB, zC, zD, zE, zF, zG, zH, zI, reduceCtorEq]
  all_goals repeat' (first | (apply brB_mk <;> (intro hg; (try simp only [push_cast] at hg))) | (refine ⟨_, hA, ?_⟩; simp only [push_cast, ↓brB_true, ↓brB_false, ↓reduceIte, zA, zB, zC, zD, zE, zF, zG, zH, zI, reduceCtorEq]) | apply And.intro | (intro hg; (try simp only [push_cast] at hg)))
  all_goals try exact gA
  all_goals first | (refine hK _ ?_; clear hK K) | (simp only [push_cast]; done)
  all_goals refine awp_cond rfl (fun hc => ?_) (fun hc => ?_)
  all_goals (first | (cases hc; done) | skip)
  all_goals (try simp only [push_cast] at hc)
  all_goals try (
      refine awp_seq' fun K hK => ?_
      refine awp_region tyOk tyPos [] rfl ?_
      simp only [push_cast, ↓brB_true, ↓brB_false, ↓reduceIte, zA, zB, zC, zD, zE, zF, zG, zH, zI, reduceCtorEq]
      repeat' apply And.intro
      all_goals try exact gB
      all_goals first | (refine hK _ ?_; clear hK K) | (simp only [push_cast]; done)
      refine awp_ret ?_
      (try simp only [AThen, ABlk])
      refine ⟨Or.inl rfl, ?_⟩
      simp only [RetOk, push_cast, ↓brB_true, ↓brB_false, ↓reduceIte, zA, zB, zC, zD, zE, zF, zG, zH, zI, reduceCtorEq]
      symm
      first | exact parityB_no1 (by with_reducible assumption) | exact parityB_no2 (by omega)
      done)
  refine awp_skip ?_
  (try simp only [AThen, ABlk, reduceIte, zF]); refine hK1 _ ?_
  refine awp_seq' fun K2 hK2 => ?_
  refine awp_seq' fun K hK => ?_
  refine awp_region tyOk tyPos [] rfl ?_
  simp only [push_cast, ↓brB_true, ↓brB_false, ↓reduceIte, zA, zB, zC, zD, zE, zF, zG, zH, zI, reduceCtorEq]
  repeat' apply And.intro
  all_goals try exact gB
  all_goals first | (refine hK _ ?_; clear hK K) | (simp only [push_cast]; done)
  refine awp_block ?_
  refine awp_loopU [2,4,9,22,23,24,25,26,27,28,29,30,31,32] [] (fun (k : Nat) => [(22, .int .i64 k)]) (fun k => []) (fun k => []) (fun k => k ≤ g.prio.length ∧ ∀ j, j < k → 0 ≤ gi g.prio j ∧ gi g.prio j ≤ 40) (fun k => g.prio.length - k) 0 ?_ ⟨by omega, fun j hj => by omega⟩ ?_
  ·
    refine cov_of rfl ?_ ?_ ?_ <;> simp only [covS, covL, push_cast, ↓brB_true, ↓brB_false, ↓reduceIte, zA, zB, zC, zD, zE, zF, zG, zH, zI, reduceCtorEq]
  · rintro k ⟨hk, hall⟩ KL0 hL0
    simp only [push_cast, ↓brB_true, ↓brB_false, ↓reduceIte, zA, zB, zC, zD, zE, zF, zG, zH, zI, reduceCtorEq]
    refine awp_seq' fun K hK => ?_
    refine awp_region tyOk tyPos [] rfl ?_
    simp only [push_cast, ↓brB_true, ↓brB_false, ↓reduceIte, zA, zB, zC, zD, zE, zF, zG, zH, zI, reduceCtorEq]
    repeat' apply And.intro
    all_goals try exact gB
    all_goals first | (refine hK _ ?_; clear hK K) | (simp only [push_cast]; done)
    refine awp_seq' fun K3 hK3 => ?_
    refine awp_cond rfl (fun hc => ?_) (fun hc => ?_) <;> (try simp only [push_cast] at hc)
    ·
      refine awp_skip ?_
      (try simp only [AThen, ABlk, reduceIte, zF]); refine hK3 _ ?_
      refine awp_seq' fun K4 hK4 => ?_
      refine awp_block ?_
      refine awp_seq' fun K hK => ?_
      refine awp_region tyOk tyPos [] rfl ?_
      simp only [push_cast, ↓brB_true, ↓brB_false, ↓reduceIte, zA, zB, zC, zD, zE, zF, zG, zH, zI, reduceCtorEq]
      repeat' apply And.intro
      all_goals try exact gB
      all_goals first | (refine hK _ ?_; clear hK K) | (simp only [push_cast]; done)
      refine awp_seq' fun K hK => ?_
      refine awp_regionN false tyOk tyPos ?_ rfl ?_
      · kernel_rfl
      all_goals simp only [push_cast, ↓brB_true, ↓brB_false, ↓reduceIte, zA, zB, zC, zD, zE, zF, zG, zH, zI, reduceCtorEq]
      all_goals repeat' (first | (apply brB_mk <;> (intro hg; (try simp only [push_cast] at hg))) | (refine ⟨_, hA, ?_⟩; simp only [push_cast, ↓brB_true, ↓brB_false, ↓reduceIte, zA, zB, zC, zD, zE, zF, zG, zH, zI, reduceCtorEq]) | apply And.intro | (intro hg; (try simp only [push_cast] at hg)))
      all_goals try exact gA
      all_goals first | (refine hK _ ?_; clear hK K) | (simp only [push_cast]; done)
      all_goals refine awp_cond rfl (fun hc => ?_) (fun hc => ?_)
      all_goals (first | (cases hc; done) | skip)
      all_goals (try simp only [push_cast] at hc)
      all_goals try (
          refine awp_seq' fun K hK => ?_
          refine awp_region tyOk tyPos [] rfl ?_
          simp only [push_cast, ↓brB_true, ↓brB_false, ↓reduceIte, zA, zB, zC, zD, zE, zF, zG, zH, zI, reduceCtorEq]
          repeat' apply And.intro
          all_goals try exact gB
          all_goals first | (refine hK _ ?_; clear hK K) | (simp only [push_cast]; done)
          refine awp_ret ?_
          (try simp only [AThen, ABlk])
          refine ⟨Or.inl rfl, ?_⟩
          simp only [RetOk, push_cast, ↓brB_true, ↓brB_false, ↓reduceIte, zA, zB, zC, zD, zE, zF, zG, zH, zI, reduceCtorEq]
          symm
          exact parityB_no3 (k := k) (by omega) (by omega)
          done)
      refine awp_skip ?_
      (try simp only [AThen, ABlk, reduceIte, zF]); refine hK4 _ ?_
      refine awp_region tyOk tyPos [] rfl ?_
      simp only [push_cast, ↓brB_true, ↓brB_false, ↓reduceIte, zA, zB, zC, zD, zE, zF, zG, zH, zI, reduceCtorEq]
      repeat' apply And.intro
      all_goals try exact gB
      refine hL0 _ ⟨k + 1, ⟨by omega, fun j hj => (by
          by_cases hjk : j = k
          · subst hjk; omega
          · exact hall j (by omega))⟩, by omega, ?_⟩
      refine cov_of rfl ?_ ?_ ?_ <;> simp only [covS, covL, push_cast, ↓brB_true, ↓brB_false, ↓reduceIte, zA, zB, zC, zD, zE, zF, zG, zH, zI, reduceCtorEq]
    ·
      refine awp_exit ?_
      (try simp only [AThen, ABlk, reduceIte, zF]); refine hK2 _ ?_
      refine awp_seq' fun K hK => ?_
      refine awp_region tyOk tyPos [] rfl ?_
      simp only [push_cast, ↓brB_true, ↓brB_false, ↓reduceIte, zA, zB, zC, zD, zE, zF, zG, zH, zI, reduceCtorEq]
      repeat' apply And.intro
      all_goals try exact gB
      all_goals first | (refine hK _ ?_; clear hK K) | (simp only [push_cast]; done)
      refine awp_ret ?_
      (try simp only [AThen, ABlk])
      refine ⟨Or.inl rfl, ?_⟩
      simp only [RetOk, push_cast, ↓brB_true, ↓brB_false, ↓reduceIte, zA, zB, zC, zD, zE, zF, zG, zH, zI, reduceCtorEq]
      symm
      exact parityB_yes (by with_reducible assumption) (by omega) fun j hj => hall j (by omega)
set_option maxRecDepth 20000 in
set_option maxHeartbeats 4000000 in
theorem ParityOkS_fn (g : Pa) (hg : g.Ln 1048576) : Fn Try.prog tyT 98 [.agg (dPa g)] [.c (.bool (parityB g))] := by
  have hpl := hg.prio
  have hno := hg.a.owner
  unfold LnI at hpl hno
  have hA := ArenaOkS_fn g.a hg.a
  unfold dAr at hA
  unfold dPa
  refine Fn_of (fn := Try.f98) (ts := [2]) Try.func98 (by kernel_rfl) rfl rfl (by rw [Try.ntmps98]; exact Nat.le_of_ble_eq_true rfl) rfl (by simp only [szA, List.mem_cons, List.not_mem_nil, or_false, forall_eq_or_imp, forall_eq, VT.cells, szL]; try decide) ?_
  rw [Try.ntmps98]
  simp only [push_cast, ↓brB_true, ↓brB_false, ↓reduceIte, zA, zB, zC, zD, zE, zF, zG, zH, zI, reduceCtorEq]
  refine awp_seq' fun K hK => ?_
  refine awp_region tyOk tyPos [] rfl ?_
  simp only [push_cast, ↓brB_true, ↓brB_false, ↓reduceIte, zA, zB, zC, zD, zE, zF, zG, zH, zI, reduceCtorEq]
  repeat' apply And.intro
  all_goals try exact gB
  all_goals first | (refine hK _ ?_; clear hK K) | (simp only [push_cast]; done)
  refine awp_seq' fun K1 hK1 => ?_
  refine awp_seq' fun K hK => ?_
  refine awp_regionN false tyOk tyPos ?_ rfl ?_
  · kernel_rfl
  all_goals refine seqE_cut 3 fun K9 hK9 => ?_
  all_goals simp only [push_cast, ↓brB_true, ↓brB_false, ↓reduceIte, zA, zB, zC, zD, zE, zF, zG, zH, zI, reduceCtorEq]
  all_goals repeat' (first | (apply brB_mk <;> (intro hg; (try simp only [push_cast] at hg))) | (refine ⟨_, hA, ?_⟩; simp only [push_cast, ↓brB_true, ↓brB_false, ↓reduceIte, zA, zB, zC, zD, zE, zF, zG, zH, zI, reduceCtorEq]) | apply And.intro | (intro hg; (try simp only [push_cast] at hg)))
  all_goals try exact gA
  all_goals first | (refine hK9 _ ?_; clear hK9 K9) | (simp only [push_cast]; done)
  all_goals simp only [push_cast, ↓brB_true, ↓brB_false, ↓reduceIte, zA, zB, zC, zD, zE, zF, zG, zH, zI, reduceCtorEq]
  all_goals repeat' (first | (apply brB_mk <;> (intro hg; (try simp only [push_cast] at hg))) | (refine ⟨_, hA, ?_⟩; simp only [push_cast, ↓brB_true, ↓brB_false, ↓reduceIte, zA, zB, zC, zD, zE, zF, zG, zH, zI, reduceCtorEq]) | apply And.intro | (intro hg; (try simp only [push_cast] at hg)))
  all_goals try exact gA
  all_goals first | (refine hK _ ?_; clear hK K) | (simp only [push_cast]; done)
  all_goals refine awp_cond rfl (fun hc => ?_) (fun hc => ?_)
  all_goals (first | (cases hc; done) | skip)
  all_goals (try simp only [push_cast] at hc)
  all_goals try (
      refine awp_seq' fun K hK => ?_
      refine awp_region tyOk tyPos [] rfl ?_
      simp only [push_cast, ↓brB_true, ↓brB_false, ↓reduceIte, zA, zB, zC, zD, zE, zF, zG, zH, zI, reduceCtorEq]
      repeat' apply And.intro
      all_goals try exact gB
      all_goals first | (refine hK _ ?_; clear hK K) | (simp only [push_cast]; done)
      refine awp_ret ?_
      (try simp only [AThen, ABlk])
      refine ⟨Or.inl rfl, ?_⟩
      simp only [RetOk, push_cast, ↓brB_true, ↓brB_false, ↓reduceIte, zA, zB, zC, zD, zE, zF, zG, zH, zI, reduceCtorEq]
      symm
      first | exact parityB_no1 (by with_reducible assumption) | exact parityB_no2 (by omega)
      done)
  refine awp_skip ?_
  (try simp only [AThen, ABlk, reduceIte, zF]); refine hK1 _ ?_
  refine awp_seq' fun K2 hK2 => ?_
  refine awp_seq' fun K hK => ?_
  refine awp_region tyOk tyPos [] rfl ?_
  simp only [push_cast, ↓brB_true, ↓brB_false, ↓reduceIte, zA, zB, zC, zD, zE, zF, zG, zH, zI, reduceCtorEq]
  repeat' apply And.intro
  all_goals try exact gB
  all_goals first | (refine hK _ ?_; clear hK K) | (simp only [push_cast]; done)
  refine awp_block ?_
  refine awp_loopU [2,3,8,18,19,20,21,22,23,24,25,26,27,28,29,30,31] [] (fun (k : Nat) => [(3, .int .i64 k)]) (fun k => []) (fun k => []) (fun k => k ≤ g.prio.length ∧ ∀ j, j < k → 0 ≤ gi g.prio j ∧ gi g.prio j ≤ 40) (fun k => g.prio.length - k) 0 ?_ ⟨by omega, fun j hj => by omega⟩ ?_
  ·
    refine cov_of rfl ?_ ?_ ?_ <;> simp only [covS, covL, push_cast, ↓brB_true, ↓brB_false, ↓reduceIte, zA, zB, zC, zD, zE, zF, zG, zH, zI, reduceCtorEq]
  · rintro k ⟨hk, hall⟩ KL0 hL0
    simp only [push_cast, ↓brB_true, ↓brB_false, ↓reduceIte, zA, zB, zC, zD, zE, zF, zG, zH, zI, reduceCtorEq]
    refine awp_seq' fun K3 hK3 => ?_
    refine awp_seq' fun K hK => ?_
    refine awp_region tyOk tyPos [] rfl ?_
    simp only [push_cast, ↓brB_true, ↓brB_false, ↓reduceIte, zA, zB, zC, zD, zE, zF, zG, zH, zI, reduceCtorEq]
    repeat' apply And.intro
    all_goals try exact gB
    all_goals first | (refine hK _ ?_; clear hK K) | (simp only [push_cast]; done)
    refine awp_cond rfl (fun hc => ?_) (fun hc => ?_) <;> (try simp only [push_cast] at hc)
    ·
      refine awp_skip ?_
      (try simp only [AThen, ABlk, reduceIte, zF]); refine hK3 _ ?_
      refine awp_seq' fun K4 hK4 => ?_
      refine awp_block ?_
      refine awp_seq' fun K hK => ?_
      refine awp_region tyOk tyPos [] rfl ?_
      all_goals refine aops_cut 6 fun K9 hK9 => ?_
      all_goals simp only [push_cast, ↓brB_true, ↓brB_false, ↓reduceIte, zA, zB, zC, zD, zE, zF, zG, zH, zI, reduceCtorEq]
      all_goals repeat' (first | (apply brB_mk <;> (intro hg; (try simp only [push_cast] at hg))) | (refine ⟨_, l1In_fn _ _ _, ?_⟩; simp only [push_cast, ↓brB_true, ↓brB_false, ↓reduceIte, zA, zB, zC, zD, zE, zF, zG, zH, zI, reduceCtorEq]) | apply And.intro | (intro hg; (try simp only [push_cast] at hg)))
      all_goals try exact gA
      all_goals first | (refine hK9 _ ?_; clear hK9 K9) | (simp only [push_cast]; done)
      all_goals simp only [push_cast, ↓brB_true, ↓brB_false, ↓reduceIte, zA, zB, zC, zD, zE, zF, zG, zH, zI, reduceCtorEq]
      all_goals repeat' (first | (apply brB_mk <;> (intro hg; (try simp only [push_cast] at hg))) | (refine ⟨_, l1In_fn _ _ _, ?_⟩; simp only [push_cast, ↓brB_true, ↓brB_false, ↓reduceIte, zA, zB, zC, zD, zE, zF, zG, zH, zI, reduceCtorEq]) | apply And.intro | (intro hg; (try simp only [push_cast] at hg)))
      all_goals try exact gA
      all_goals first | (refine hK _ ?_; clear hK K) | (simp only [push_cast]; done)
      refine awp_cond rfl (fun hc => ?_) (fun hc => ?_) <;> (try simp only [push_cast] at hc)
      ·
        refine awp_seq' fun K hK => ?_
        refine awp_region tyOk tyPos [] rfl ?_
        simp only [push_cast, ↓brB_true, ↓brB_false, ↓reduceIte, zA, zB, zC, zD, zE, zF, zG, zH, zI, reduceCtorEq]
        repeat' apply And.intro
        all_goals try exact gB
        all_goals first | (refine hK _ ?_; clear hK K) | (simp only [push_cast]; done)
        refine awp_ret ?_
        (try simp only [AThen, ABlk])
        refine ⟨Or.inl rfl, ?_⟩
        simp only [RetOk, push_cast, ↓brB_true, ↓brB_false, ↓reduceIte, zA, zB, zC, zD, zE, zF, zG, zH, zI, reduceCtorEq]
        symm
        exact parityB_no3 (k := k) (by omega) (by omega)
      ·
        refine awp_skip ?_
        (try simp only [AThen, ABlk, reduceIte, zF]); refine hK4 _ ?_
        refine awp_region tyOk tyPos [] rfl ?_
        simp only [push_cast, ↓brB_true, ↓brB_false, ↓reduceIte, zA, zB, zC, zD, zE, zF, zG, zH, zI, reduceCtorEq]
        repeat' apply And.intro
        all_goals try exact gB
        refine hL0 _ ⟨k + 1, ⟨by omega, fun j hj => (by
            by_cases hjk : j = k
            · subst hjk; omega
            · exact hall j (by omega))⟩, by omega, ?_⟩
        refine cov_of rfl ?_ ?_ ?_ <;> simp only [covS, covL, push_cast, ↓brB_true, ↓brB_false, ↓reduceIte, zA, zB, zC, zD, zE, zF, zG, zH, zI, reduceCtorEq]
    ·
      refine awp_exit ?_
      (try simp only [AThen, ABlk, reduceIte, zF]); refine hK2 _ ?_
      refine awp_seq' fun K hK => ?_
      refine awp_region tyOk tyPos [] rfl ?_
      simp only [push_cast, ↓brB_true, ↓brB_false, ↓reduceIte, zA, zB, zC, zD, zE, zF, zG, zH, zI, reduceCtorEq]
      repeat' apply And.intro
      all_goals try exact gB
      all_goals first | (refine hK _ ?_; clear hK K) | (simp only [push_cast]; done)
      refine awp_ret ?_
      (try simp only [AThen, ABlk])
      refine ⟨Or.inl rfl, ?_⟩
      simp only [RetOk, push_cast, ↓brB_true, ↓brB_false, ↓reduceIte, zA, zB, zC, zD, zE, zF, zG, zH, zI, reduceCtorEq]
      symm
      exact parityB_yes (by with_reducible assumption) (by omega) fun j hj => hall j (by omega)
set_option maxRecDepth 20000 in
set_option maxHeartbeats 4000000 in
theorem scoreOf_fn (g : Pa) (hg : g.Ln 1048576) (hok : parityB g = true) (v : Nat) (hv : v < g.a.owner.length) : Fn Try.prog tyT 128 [.agg (dPa g), .c (.int .i64 v)] [.c (.int .i64 (scoreV g.a.owner.length (gi g.prio v).toNat)), .c (.bool (scoreB g.a.owner.length (gi g.prio v).toNat))] := by
  have hpl := hg.prio
  have hno := hg.a.owner
  unfold LnI at hpl hno
  obtain ⟨h1, h2, h3, h4, h5, h6⟩ := parity_facts hok
  have hpv := h6 v (by omega)
  have hS := size_fn g.a
  have hn1 : (1 : Int) ≤ (g.a.owner.length : Int) := by omega
  have hnn : (1 : Int) ≤ (g.a.owner.length : Int) ∧ (g.a.owner.length : Int) ≤ 256 := by omega
  unfold dAr at hS
  unfold dPa
  refine Fn_of (fn := Try.f128) (ts := [4, 5]) Try.func128 (by kernel_rfl) rfl rfl (by rw [Try.ntmps128]; exact Nat.le_of_ble_eq_true rfl) rfl (by simp only [szA, List.mem_cons, List.not_mem_nil, or_false, forall_eq_or_imp, forall_eq, VT.cells, szL]; try decide) ?_
  rw [Try.ntmps128]
  simp only [push_cast, ↓brB_true, ↓brB_false, ↓reduceIte, zA, zB, zC, zD, zE, zF, zG, zH, zI, reduceCtorEq]
  refine awp_seq' fun K hK => ?_
  refine awp_region tyOk tyPos [] rfl ?_
  all_goals simp only [push_cast, ↓brB_true, ↓brB_false, ↓reduceIte, zA, zB, zC, zD, zE, zF, zG, zH, zI, reduceCtorEq]
  all_goals repeat' (first | (apply brB_mk <;> (intro hg; (try simp only [push_cast] at hg))) | apply And.intro | (intro hg; (try simp only [push_cast] at hg)))
  all_goals first | exact gA | (rw [← hs1]; omega) | skip
  all_goals first | (refine hK _ ?_; clear hK K) | (simp only [push_cast]; done)
  refine awp_seq' fun K hK => ?_
  refine awp_region tyOk tyPos [] rfl ?_
  all_goals simp only [push_cast, ↓brB_true, ↓brB_false, ↓reduceIte, zA, zB, zC, zD, zE, zF, zG, zH, zI, reduceCtorEq]
  all_goals repeat' (first | (apply brB_mk <;> (intro hg; (try simp only [push_cast] at hg))) | apply And.intro | (intro hg; (try simp only [push_cast] at hg)))
  all_goals first | exact gA | (rw [← hs1]; omega) | skip
  all_goals first | (refine hK _ ?_; clear hK K) | (simp only [push_cast]; done)
  refine awp_seq' fun K1 hK1 => ?_
  refine awp_seq' fun K hK => ?_
  refine awp_region tyOk tyPos [] rfl ?_
  all_goals simp only [push_cast, ↓brB_true, ↓brB_false, ↓reduceIte, zA, zB, zC, zD, zE, zF, zG, zH, zI, reduceCtorEq]
  all_goals repeat' (first | (apply brB_mk <;> (intro hg; (try simp only [push_cast] at hg))) | apply And.intro | (intro hg; (try simp only [push_cast] at hg)))
  all_goals first | exact gA | (rw [← hs1]; omega) | skip
  all_goals first | (refine hK _ ?_; clear hK K) | (simp only [push_cast]; done)
  refine awp_block ?_
  refine awp_loopU [4,5,6,12,13,14,15,16,17,18,19,20,21,22,23,24,25,26] [] (fun (k : Nat) => [(12, .int .i64 k), (6, .int .i64 (sg g.a.owner.length k))]) (fun k => []) (fun k => []) (fun k => k ≤ (gi g.prio v).toNat ∧ pw g.a.owner.length k ≤ 1000) (fun k => (gi g.prio v).toNat - k) 0 ?_ ⟨by omega, by simp [pw]⟩ ?_
  ·
    rw [show sg (g.a.owner.length : Int) 0 = 1 from rfl]
    refine cov_of rfl ?_ ?_ ?_ <;> simp only [covS, covL, push_cast, ↓brB_true, ↓brB_false, ↓reduceIte, zA, zB, zC, zD, zE, zF, zG, zH, zI, reduceCtorEq]
  · rintro k ⟨hk, hk2⟩ KL0 hL0
    have ha0 := sg_abs hn1 k
    have hp0 := pw_pos hn1 k
    have ha1 := sg_abs hn1 (k + 1)
    have hp1 := pw_le hnn hk2
    have hs1 := sg_s (g.a.owner.length : Int) k
    simp only [push_cast, ↓brB_true, ↓brB_false, ↓reduceIte, zA, zB, zC, zD, zE, zF, zG, zH, zI, reduceCtorEq]
    refine awp_seq' fun K hK => ?_
    refine awp_region tyOk tyPos [] rfl ?_
    all_goals simp only [push_cast, ↓brB_true, ↓brB_false, ↓reduceIte, zA, zB, zC, zD, zE, zF, zG, zH, zI, reduceCtorEq]
    all_goals repeat' (first | (apply brB_mk <;> (intro hg; (try simp only [push_cast] at hg))) | apply And.intro | (intro hg; (try simp only [push_cast] at hg)))
    all_goals first | exact gA | (rw [← hs1]; omega) | skip
    all_goals first | (refine hK _ ?_; clear hK K) | (simp only [push_cast]; done)
    refine awp_seq' fun K2 hK2 => ?_
    refine awp_cond rfl (fun hc => ?_) (fun hc => ?_) <;> (try simp only [push_cast] at hc)
    ·
      refine awp_skip ?_
      (try simp only [AThen, ABlk, reduceIte, zF]); refine hK2 _ ?_
      refine awp_seq' fun K3 hK3 => ?_
      refine awp_block ?_
      refine awp_seq' fun K hK => ?_
      refine awp_region tyOk tyPos [] rfl ?_
      all_goals refine aops_cut 4 fun K9 hK9 => ?_
      all_goals simp only [push_cast, ↓brB_true, ↓brB_false, ↓reduceIte, zA, zB, zC, zD, zE, zF, zG, zH, zI, reduceCtorEq]
      all_goals repeat' (first | (apply brB_mk <;> (intro hg; (try simp only [push_cast] at hg))) | (refine ⟨_, hS, ?_⟩; simp only [push_cast, ↓brB_true, ↓brB_false, ↓reduceIte, zA, zB, zC, zD, zE, zF, zG, zH, zI, reduceCtorEq]) | apply And.intro | (intro hg; (try simp only [push_cast] at hg)))
      all_goals first | exact gA | (rw [← hs1]; omega) | skip
      all_goals first | (refine hK9 _ ?_; clear hK9 K9) | (simp only [push_cast]; done)
      all_goals simp only [push_cast, ↓brB_true, ↓brB_false, ↓reduceIte, zA, zB, zC, zD, zE, zF, zG, zH, zI, reduceCtorEq]
      all_goals repeat' (first | (apply brB_mk <;> (intro hg; (try simp only [push_cast] at hg))) | (refine ⟨_, hS, ?_⟩; simp only [push_cast, ↓brB_true, ↓brB_false, ↓reduceIte, zA, zB, zC, zD, zE, zF, zG, zH, zI, reduceCtorEq]) | apply And.intro | (intro hg; (try simp only [push_cast] at hg)))
      all_goals first | exact gA | (rw [← hs1]; omega) | skip
      all_goals first | (refine hK _ ?_; clear hK K) | (simp only [push_cast]; done)
      refine awp_seq' fun K hK => ?_
      refine awp_regionN false tyOk tyPos ?_ rfl ?_
      · kernel_rfl
      all_goals simp only [push_cast, ↓brB_true, ↓brB_false, ↓reduceIte, zA, zB, zC, zD, zE, zF, zG, zH, zI, reduceCtorEq]
      all_goals repeat' (first | (apply brB_mk <;> (intro hg; (try simp only [push_cast] at hg))) | apply And.intro | (intro hg; (try simp only [push_cast] at hg)))
      all_goals first | exact gA | (rw [← hs1]; omega) | skip
      all_goals first | (refine hK _ ?_; clear hK K) | (simp only [push_cast]; done)
      all_goals refine awp_cond rfl (fun hc => ?_) (fun hc => ?_)
      all_goals (first | (cases hc; done) | skip)
      all_goals (try simp only [push_cast] at hc)
      all_goals try (
          refine awp_seq' fun K hK => ?_
          refine awp_region tyOk tyPos [] rfl ?_
          all_goals simp only [push_cast, ↓brB_true, ↓brB_false, ↓reduceIte, zA, zB, zC, zD, zE, zF, zG, zH, zI, reduceCtorEq]
          all_goals repeat' (first | (apply brB_mk <;> (intro hg; (try simp only [push_cast] at hg))) | apply And.intro | (intro hg; (try simp only [push_cast] at hg)))
          all_goals first | exact gA | (rw [← hs1]; omega) | skip
          all_goals first | (refine hK _ ?_; clear hK K) | (simp only [push_cast]; done)
          refine awp_ret ?_
          (try simp only [AThen, ABlk])
          refine ⟨Or.inl rfl, ?_⟩
          simp only [RetOk, push_cast, ↓brB_true, ↓brB_false, ↓reduceIte, zA, zB, zC, zD, zE, zF, zG, zH, zI, reduceCtorEq]
          have h9 := scoreB_no hn1 (k := k + 1) (p := (gi g.prio v).toNat) (by omega) (by omega)
          rw [h9.1, h9.2]
          all_goals first | rfl | exact ⟨rfl, rfl⟩
          done)
      refine awp_skip ?_
      (try simp only [AThen, ABlk, reduceIte, zF]); refine hK3 _ ?_
      refine awp_region tyOk tyPos [] rfl ?_
      all_goals simp only [push_cast, ↓brB_true, ↓brB_false, ↓reduceIte, zA, zB, zC, zD, zE, zF, zG, zH, zI, reduceCtorEq]
      all_goals repeat' (first | (apply brB_mk <;> (intro hg; (try simp only [push_cast] at hg))) | apply And.intro | (intro hg; (try simp only [push_cast] at hg)))
      all_goals first | exact gA | (rw [← hs1]; omega) | skip
      refine hL0 _ ⟨k + 1, ⟨by omega, by omega⟩, by omega, ?_⟩
      rw [hs1]
      refine cov_of rfl ?_ ?_ ?_ <;> simp only [covS, covL, push_cast, ↓brB_true, ↓brB_false, ↓reduceIte, zA, zB, zC, zD, zE, zF, zG, zH, zI, reduceCtorEq]
    ·
      refine awp_exit ?_
      (try simp only [AThen, ABlk, reduceIte, zF]); refine hK1 _ ?_
      refine awp_seq' fun K hK => ?_
      refine awp_region tyOk tyPos [] rfl ?_
      all_goals simp only [push_cast, ↓brB_true, ↓brB_false, ↓reduceIte, zA, zB, zC, zD, zE, zF, zG, zH, zI, reduceCtorEq]
      all_goals repeat' (first | (apply brB_mk <;> (intro hg; (try simp only [push_cast] at hg))) | apply And.intro | (intro hg; (try simp only [push_cast] at hg)))
      all_goals first | exact gA | (rw [← hs1]; omega) | skip
      all_goals first | (refine hK _ ?_; clear hK K) | (simp only [push_cast]; done)
      refine awp_ret ?_
      (try simp only [AThen, ABlk])
      refine ⟨Or.inl rfl, ?_⟩
      simp only [RetOk, push_cast, ↓brB_true, ↓brB_false, ↓reduceIte, zA, zB, zC, zD, zE, zF, zG, zH, zI, reduceCtorEq]
      have hkk : k = (gi g.prio v).toNat := by omega
      have h9 := scoreB_yes (n := (g.a.owner.length : Int)) (p := k) hk2
      rw [← hkk, h9.1, h9.2]
      all_goals first | rfl | exact ⟨rfl, rfl⟩
end Go.Proofs.Ytdbecmmeifdafaa

namespace Go.Proofs.Ytdbecmmeifdafaa
open Nat renaming reduceMod → zA, reduceMul → zB, reduceDiv → zC, reduceAdd → zD, reduceSub → zE, reduceEqDiff → zF, reduceBEq → zG, reduceLT → zH, reduceLeDiff → zI
open Go.RowKit
set_option linter.unusedVariables false
set_option linter.unusedSimpArgs false

end Go.Proofs.Ytdbecmmeifdafaa

namespace Go.Proofs.Ytdbecmmeifdafaa
open Nat renaming reduceMod → zA, reduceMul → zB, reduceDiv → zC, reduceAdd → zD, reduceSub → zE, reduceEqDiff → zF, reduceBEq → zG, reduceLT → zH, reduceLeDiff → zI
open Go.RowKit
set_option linter.unusedVariables false
set_option linter.unusedSimpArgs false

set_option maxRecDepth 20000 in
set_option maxHeartbeats 4000000 in
theorem copyLists_fn (xs : List (List Int)) (hx : LnII 1048576 xs) : Fn Try.prog tyT 58 [.c (DII xs)] [.c (DII xs)] := by
  have h1 := hx.1
  have hr : ∀ v, (gl xs v).length ≤ 1048576 := fun v => gl_le hx v
  refine Fn_of (fn := Try.f58) (ts := [2]) Try.func58 (by kernel_rfl) rfl rfl (by rw [Try.ntmps58]; exact Nat.le_of_ble_eq_true rfl) rfl (by simp only [szA, List.mem_cons, List.not_mem_nil, or_false, forall_eq_or_imp, forall_eq, VT.cells, szL]; try decide) ?_
  rw [Try.ntmps58]
  simp only [push_cast, ↓brB_true, ↓brB_false, ↓reduceIte, zA, zB, zC, zD, zE, zF, zG, zH, zI, reduceCtorEq]
  refine awp_seq' fun K hK => ?_
  refine awp_region tyOk tyPos [] rfl ?_
  all_goals simp only [push_cast, ↓brB_true, ↓brB_false, ↓reduceIte, zA, zB, zC, zD, zE, zF, zG, zH, zI, reduceCtorEq]
  all_goals repeat' (first | (apply brB_mk <;> (intro hg; (try simp only [push_cast] at hg))) | apply And.intro | (intro hg; (try simp only [push_cast] at hg)))
  all_goals first | exact gA | (exact getE_dII (by omega)) | skip
  all_goals first | (refine hK _ ?_; clear hK K) | (simp only [push_cast]; done)
  refine awp_seq' fun K hK => ?_
  refine awp_regionN false tyOk tyPos ?_ rfl ?_
  · kernel_rfl
  simp only [push_cast, ↓brB_true, ↓brB_false, ↓reduceIte, zA, zB, zC, zD, zE, zF, zG, zH, zI, reduceCtorEq]
  all_goals repeat' (first | (apply brB_mk <;> (intro hg; (try simp only [push_cast] at hg))) | apply And.intro | (intro hg; (try simp only [push_cast] at hg)))
  all_goals first | exact gA | (exact getE_dII (by omega)) | skip
  all_goals first | (refine hK _ ?_; clear hK K) | (simp only [push_cast]; done)
  refine awp_settle 27 3 (Nat.le_of_ble_eq_true rfl) ?_
  simp only [push_cast, ↓brB_true, ↓brB_false, ↓reduceIte, zA, zB, zC, zD, zE, zF, zG, zH, zI, reduceCtorEq]
  refine awp_seq' fun K1 hK1 => ?_
  refine awp_seq' fun K hK => ?_
  refine awp_region tyOk tyPos [] rfl ?_
  all_goals simp only [push_cast, ↓brB_true, ↓brB_false, ↓reduceIte, zA, zB, zC, zD, zE, zF, zG, zH, zI, reduceCtorEq]
  all_goals repeat' (first | (apply brB_mk <;> (intro hg; (try simp only [push_cast] at hg))) | apply And.intro | (intro hg; (try simp only [push_cast] at hg)))
  all_goals first | exact gA | (exact getE_dII (by omega)) | skip
  all_goals first | (refine hK _ ?_; clear hK K) | (simp only [push_cast]; done)
  refine awp_block ?_
  rw [show ([] : List D) = dII (xs.take 0) from by simp [dII]]
  refine awp_loopU [3,5,9,10,11,12,13,14,15,16,17,18,19] [48] (fun (k : Nat) => [(9, .int .i64 k), (3, .sl 48 [] 0 k 27)]) (fun k => []) (fun k => [(48, ⟨.ex, 27, dII (xs.take k), none⟩)]) (fun k => k ≤ xs.length) (fun k => xs.length - k) 0 ?_ (by omega) ?_
  ·
    refine cov_of rfl ?_ ?_ ?_ <;> simp only [covS, covL, push_cast, ↓brB_true, ↓brB_false, ↓reduceIte, zA, zB, zC, zD, zE, zF, zG, zH, zI, reduceCtorEq]
  · rintro k hk KL0 hL0
    have htk : (xs.take k).length = k := by rw [List.length_take]; omega
    have hrk := hr k
    simp only [push_cast, ↓brB_true, ↓brB_false, ↓reduceIte, zA, zB, zC, zD, zE, zF, zG, zH, zI, reduceCtorEq]
    refine awp_seq' fun K hK => ?_
    refine awp_region tyOk tyPos [] rfl ?_
    all_goals simp only [push_cast, ↓brB_true, ↓brB_false, ↓reduceIte, zA, zB, zC, zD, zE, zF, zG, zH, zI, reduceCtorEq]
    all_goals repeat' (first | (apply brB_mk <;> (intro hg; (try simp only [push_cast] at hg))) | apply And.intro | (intro hg; (try simp only [push_cast] at hg)))
    all_goals first | exact gA | (exact getE_dII (by omega)) | skip
    all_goals first | (refine hK _ ?_; clear hK K) | (simp only [push_cast]; done)
    refine awp_seq' fun K2 hK2 => ?_
    refine awp_cond rfl (fun hc => ?_) (fun hc => ?_) <;> (try simp only [push_cast] at hc)
    ·
      refine awp_skip ?_
      (try simp only [AThen, ABlk, reduceIte, zF]); refine hK2 _ ?_
      refine awp_seq' fun K3 hK3 => ?_
      refine awp_block ?_
      refine awp_seq' fun K hK => ?_
      refine awp_region tyOk tyPos [] rfl ?_
      all_goals simp only [push_cast, ↓brB_true, ↓brB_false, ↓reduceIte, zA, zB, zC, zD, zE, zF, zG, zH, zI, reduceCtorEq]
      all_goals repeat' (first | (apply brB_mk <;> (intro hg; (try simp only [push_cast] at hg))) | apply And.intro | (intro hg; (try simp only [push_cast] at hg)))
      all_goals first | exact gA | (exact getE_dII (by omega)) | skip
      all_goals first | (refine hK _ ?_; clear hK K) | (simp only [push_cast]; done)
      refine awp_regionN false tyOk tyPos ?_ rfl ?_
      · kernel_rfl
      simp only [push_cast, ↓brB_true, ↓brB_false, ↓reduceIte, zA, zB, zC, zD, zE, zF, zG, zH, zI, reduceCtorEq]
      all_goals repeat' (first | (apply brB_mk <;> (intro hg; (try simp only [push_cast] at hg))) | apply And.intro | (intro hg; (try simp only [push_cast] at hg)))
      all_goals first | exact gA | (exact getE_dII (by omega)) | skip
      (try simp only [AThen, ABlk, reduceIte, zF]); refine hK3 _ ?_
      refine awp_settle 27 3 (Nat.le_of_ble_eq_true rfl) ?_
      simp only [push_cast, ↓brB_true, ↓brB_false, ↓reduceIte, zA, zB, zC, zD, zE, zF, zG, zH, zI, reduceCtorEq]
      refine awp_region tyOk tyPos [] rfl ?_
      all_goals simp only [push_cast, ↓brB_true, ↓brB_false, ↓reduceIte, zA, zB, zC, zD, zE, zF, zG, zH, zI, reduceCtorEq]
      all_goals repeat' (first | (apply brB_mk <;> (intro hg; (try simp only [push_cast] at hg))) | apply And.intro | (intro hg; (try simp only [push_cast] at hg)))
      all_goals first | exact gA | (exact getE_dII (by omega)) | skip
      refine hL0 _ ⟨k + 1, by omega, by omega, ?_⟩
      (try rw [List.take_take, Nat.min_self])
      rw [take_snocL (by omega)]
      refine cov_of rfl ?_ ?_ ?_ <;> simp only [covS, covL, push_cast, ↓brB_true, ↓brB_false, ↓reduceIte, zA, zB, zC, zD, zE, zF, zG, zH, zI, reduceCtorEq]
    ·
      refine awp_exit ?_
      have hkk : k = xs.length := by omega
      subst hkk
      rw [List.take_length]
      (try simp only [AThen, ABlk, reduceIte, zF]); refine hK1 _ ?_
      refine awp_seq' fun K hK => ?_
      refine awp_region tyOk tyPos [] rfl ?_
      all_goals simp only [push_cast, ↓brB_true, ↓brB_false, ↓reduceIte, zA, zB, zC, zD, zE, zF, zG, zH, zI, reduceCtorEq]
      all_goals repeat' (first | (apply brB_mk <;> (intro hg; (try simp only [push_cast] at hg))) | apply And.intro | (intro hg; (try simp only [push_cast] at hg)))
      all_goals first | exact gA | (exact getE_dII (by omega)) | skip
      all_goals first | (refine hK _ ?_; clear hK K) | (simp only [push_cast]; done)
      refine awp_ret ?_
      (try simp only [AThen, ABlk])
      refine ⟨Or.inl rfl, ?_⟩
      simp only [RetOk, push_cast, ↓brB_true, ↓brB_false, ↓reduceIte, zA, zB, zC, zD, zE, zF, zG, zH, zI, reduceCtorEq]
set_option maxRecDepth 20000 in
set_option maxHeartbeats 4000000 in
theorem copyArena_fn (a : Ar) (ha : a.Ln 1048576) : Fn Try.prog tyT 109 [.agg (dAr a)] [.agg (dAr a)] := by
  have h0 := ha.owner
  have h1 := ha.next.1
  have hC := copyLists_fn a.next ha.next
  unfold LnI at h0
  unfold dAr
  refine Fn_ofR (fn := Try.f109) (rs := [.cell 2 30]) tyOk tyPos Try.func109 (by kernel_rfl) rfl rfl (by rw [Try.ntmps109]; exact Nat.le_of_ble_eq_true rfl) rfl (by simp only [szA, List.mem_cons, List.not_mem_nil, or_false, forall_eq_or_imp, forall_eq, VT.cells, szL]; try decide) ?_
  rw [Try.ntmps109]
  simp only [push_cast, ↓brB_true, ↓brB_false, ↓reduceIte, zA, zB, zC, zD, zE, zF, zG, zH, zI, reduceCtorEq]
  refine awp_seq' fun K hK => ?_
  refine awp_region tyOk tyPos [] rfl ?_
  simp only [push_cast, ↓brB_true, ↓brB_false, ↓reduceIte, zA, zB, zC, zD, zE, zF, zG, zH, zI, reduceCtorEq]
  repeat' apply And.intro
  all_goals try exact gB
  all_goals first | (refine hK _ ?_; clear hK K) | (simp only [push_cast]; done)
  refine awp_seq' fun K hK => ?_
  refine awp_regionD1 false tyOk tyPos tyMix ?_ rfl ?_
  · kernel_rfl
  intro E hE
  all_goals refine lexF_cut 7 (by decide) fun K9 hK9 => ?_
  all_goals simp only [push_cast, ↓brB_true, ↓brB_false, ↓reduceIte, zA, zB, zC, zD, zE, zF, zG, zH, zI, reduceCtorEq]
  all_goals repeat' (first | (apply brB_mk <;> (intro hg; (try simp only [push_cast] at hg))) | (refine ⟨_, hC, ?_⟩; simp only [push_cast, ↓brB_true, ↓brB_false, ↓reduceIte, zA, zB, zC, zD, zE, zF, zG, zH, zI, reduceCtorEq]) | apply And.intro | (intro hg; (try simp only [push_cast] at hg)))
  all_goals try exact gA
  all_goals first | (refine hK9 _ _ ?_; clear hK9 K9) | (simp only [push_cast]; done)
  all_goals simp only [push_cast, ↓brB_true, ↓brB_false, ↓reduceIte, zA, zB, zC, zD, zE, zF, zG, zH, zI, reduceCtorEq]
  all_goals repeat' (first | (apply brB_mk <;> (intro hg; (try simp only [push_cast] at hg))) | (refine ⟨_, hC, ?_⟩; simp only [push_cast, ↓brB_true, ↓brB_false, ↓reduceIte, zA, zB, zC, zD, zE, zF, zG, zH, zI, reduceCtorEq]) | apply And.intro | (intro hg; (try simp only [push_cast] at hg)))
  all_goals first | exact gA | (refine hE _ _ ?_ ?_; kernel_rfl) | skip
  all_goals clear hE E
  all_goals first | (refine hK _ ?_; clear hK K) | (simp only [push_cast]; done)
  refine awp_ret ?_
  (try simp only [AThen, ABlk])
  refine ⟨Or.inl rfl, ?_⟩
  simp only [RetOk, resVars, resVar, push_cast, ↓brB_true, ↓brB_false, ↓reduceIte, zA, zB, zC, zD, zE, zF, zG, zH, zI, reduceCtorEq]
end Go.Proofs.Ytdbecmmeifdafaa

namespace Go.Proofs.Ytdbecmmeifdafaa
open Nat renaming reduceMod → zA, reduceMul → zB, reduceDiv → zC, reduceAdd → zD, reduceSub → zE, reduceEqDiff → zF, reduceBEq → zG, reduceLT → zH, reduceLeDiff → zI
open Go.RowKit
set_option linter.unusedVariables false
set_option linter.unusedSimpArgs false

def rowV (g : Pa) (j : Nat) : List Int := List.replicate (gl g.a.next j).length (scoreV g.a.owner.length (gi g.prio j).toNat)
def bridgeR (g : Pa) (v : Nat) : List (List Int) := (List.range v).map (rowV g)
theorem bridgeR_len (g : Pa) (v : Nat) : (bridgeR g v).length = v := by simp [bridgeR]
theorem bridgeR_s (g : Pa) (v : Nat) : bridgeR g (v + 1) = bridgeR g v ++ [rowV g v] := by simp [bridgeR, List.range_succ]
theorem bridgeR_gl {g : Pa} {n v : Nat} (h : v < n) : gl (bridgeR g n) v = rowV g v := by
  unfold gl bridgeR
  rw [List.getD_eq_getElem?_getD, List.getElem?_map, List.getElem?_range h]
  rfl
def bridgeB (g : Pa) : Bool := parityB g && decide (g.prio.length ≤ 24) && allB g.a.owner.length (fun j => scoreB g.a.owner.length (gi g.prio j).toNat)
def bridgeW (g : Pa) : Wt := if bridgeB g then ⟨g.a, bridgeR g g.a.owner.length⟩ else ⟨⟨[], []⟩, []⟩
theorem bridge_no1 {g : Pa} (h : parityB g = false) : bridgeB g = false := by unfold bridgeB; rw [h]; rfl
theorem bridge_no2 {g : Pa} (h : ¬ g.prio.length ≤ 24) : bridgeB g = false := by unfold bridgeB; rw [decide_eq_false h, Bool.and_false]; rfl
theorem bridge_no3 {g : Pa} {v : Nat} (hv : v < g.a.owner.length) (h : scoreB g.a.owner.length (gi g.prio v).toNat = false) : bridgeB g = false := by unfold bridgeB; rw [allB_false hv h, Bool.and_false]
theorem bridge_yes {g : Pa} (h1 : parityB g = true) (h2 : g.prio.length ≤ 24) (h3 : ∀ j, j < g.a.owner.length → scoreB g.a.owner.length (gi g.prio j).toNat = true) : bridgeB g = true := by unfold bridgeB; rw [h1, decide_eq_true h2, allB_true h3]; rfl
theorem bridgeW_no {g : Pa} (h : bridgeB g = false) : bridgeW g = ⟨⟨[], []⟩, []⟩ := by unfold bridgeW; rw [h]; rfl
theorem bridgeW_yes {g : Pa} (h : bridgeB g = true) : bridgeW g = ⟨g.a, bridgeR g g.a.owner.length⟩ := by unfold bridgeW; rw [h]; rfl
theorem bridge_facts {g : Pa} (h : bridgeB g = true) : parityB g = true ∧ g.prio.length ≤ 24 ∧ ∀ j, j < g.a.owner.length → scoreB g.a.owner.length (gi g.prio j).toNat = true := by
  unfold bridgeB at h
  rw [Bool.and_eq_true, Bool.and_eq_true, decide_eq_true_eq] at h
  exact ⟨h.1.1, h.1.2, fun j hj => allB_at (p := fun j => scoreB g.a.owner.length (gi g.prio j).toNat) h.2 hj⟩
theorem scoreV_le {n : Int} (hn : 1 ≤ n) (p : Nat) : -1000 ≤ scoreV n p ∧ scoreV n p ≤ 1000 := by
  have h1 := sg_abs hn p
  have h2 := pw_pos hn p
  unfold scoreV
  split <;> omega
theorem gi_rep {n k : Nat} {x : Int} (h : k < n) : gi (List.replicate n x) k = x := by
  unfold gi
  rw [List.getD_eq_getElem?_getD, List.getElem?_replicate, if_pos h]
  rfl
theorem bridge_weighted {g : Pa} (h : bridgeB g = true) : weightedB (bridgeW g) = true := by
  obtain ⟨h1, h2, h3⟩ := bridge_facts h
  obtain ⟨k1, k2, k3, k4, k5, k6⟩ := parity_facts h1
  rw [bridgeW_yes h]
  have hl := bridgeR_len g g.a.owner.length
  refine weightedB_iff.2 ⟨k1, by show g.a.owner.length ≤ 24; omega, by show (bridgeR g g.a.owner.length).length = _; omega, fun v hv => ?_⟩
  have hv : v < g.a.owner.length := by have hv : v < (bridgeR g g.a.owner.length).length := hv; omega
  refine costAt_iff.2 ⟨?_, fun j hj => ?_⟩
  · show (gl (bridgeR g g.a.owner.length) v).length = (gl g.a.next v).length
    rw [bridgeR_gl hv]; exact List.length_replicate ..
  · have hj : j < (gl (bridgeR g g.a.owner.length) v).length := hj
    rw [bridgeR_gl hv] at hj
    have hj : j < (gl g.a.next v).length := by rw [rowV, List.length_replicate] at hj; exact hj
    refine inCost_iff.2 ?_
    show -1000 ≤ gi (gl (bridgeR g g.a.owner.length) v) j ∧ gi (gl (bridgeR g g.a.owner.length) v) j ≤ 1000
    rw [bridgeR_gl hv, rowV, gi_rep hj]
    exact scoreV_le (by omega) _
theorem LnII_mem {B : Nat} {xs : List (List Int)} (h : ∀ v, v < xs.length → (gl xs v).length ≤ B) (hl : xs.length ≤ B) : LnII B xs := by
  refine ⟨hl, fun r hr => ?_⟩
  obtain ⟨k, hk, rfl⟩ := List.getElem_of_mem hr
  have := h k hk
  unfold gl at this
  rw [List.getD_eq_getElem?_getD, List.getElem?_eq_getElem hk] at this
  exact this
theorem bridgeW_len {g : Pa} (h : g.Ln 1048576) : (bridgeW g).Ln 1048576 := by
  have hno := h.a.owner
  unfold LnI at hno
  unfold bridgeW
  split
  · refine ⟨h.a, LnII_mem (fun v hv => ?_) ?_⟩
    · have hv : v < g.a.owner.length := by have hv : v < (bridgeR g g.a.owner.length).length := hv; rwa [bridgeR_len] at hv
      show (gl (bridgeR g g.a.owner.length) v).length ≤ _
      rw [bridgeR_gl hv, rowV, List.length_replicate]
      exact gl_le h.a.next v
    · show (bridgeR g g.a.owner.length).length ≤ _
      rw [bridgeR_len]; exact hno
  · exact ⟨⟨by unfold LnI; simp, ⟨by simp, by simp⟩⟩, ⟨by simp, by simp⟩⟩
set_option maxRecDepth 20000 in
set_option maxHeartbeats 4000000 in
theorem BridgeOfI_fn (g : Pa) (hg : g.Ln 1048576) : Fn Try.prog tyT 97 [.agg (dPa g)] [.agg (dWt (bridgeW g)), .c (.bool (bridgeB g))] := by
  have hpl := hg.prio
  have hno := hg.a.owner
  unfold LnI at hpl hno
  have hr : ∀ v, (gl g.a.next v).length ≤ 1048576 := fun v => gl_le hg.a.next v
  have hnn := hg.a.next.1
  have hP := ParityOkI_fn g hg
  have hC := copyArena_fn g.a hg.a
  have hSc := fun hok v hv => scoreOf_fn g hg hok v hv
  unfold dAr at hC
  unfold dPa at hP hSc ⊢
  unfold dWt
  refine Fn_ofR (fn := Try.f97) (rs := [.cell 2 32, .tmp 3]) tyOk tyPos Try.func97 (by kernel_rfl) rfl rfl (by rw [Try.ntmps97]; exact Nat.le_of_ble_eq_true rfl) rfl (by simp only [szA, List.mem_cons, List.not_mem_nil, or_false, forall_eq_or_imp, forall_eq, VT.cells, szL]; try decide) ?_
  rw [Try.ntmps97]
  simp only [push_cast, ↓brB_true, ↓brB_false, ↓reduceIte, zA, zB, zC, zD, zE, zF, zG, zH, zI, reduceCtorEq]
  refine awp_seq' fun K hK => ?_
  refine awp_region tyOk tyPos [] rfl ?_
  all_goals simp only [push_cast, ↓brB_true, ↓brB_false, ↓reduceIte, zA, zB, zC, zD, zE, zF, zG, zH, zI, reduceCtorEq]
  all_goals repeat' (first | (apply brB_mk <;> (intro hg; (try simp only [push_cast] at hg))) | apply And.intro | (intro hg; (try simp only [push_cast] at hg)))
  all_goals first | exact gA | (exact getE_dII (by omega)) | skip
  all_goals first | (refine hK _ ?_; clear hK K) | (simp only [push_cast]; done)
  refine awp_seq' fun K1 hK1 => ?_
  refine awp_seq' fun K hK => ?_
  refine awp_regionN false tyOk tyPos ?_ rfl ?_
  · kernel_rfl
  all_goals refine seqE_cut 2 fun K9 hK9 => ?_
  all_goals simp only [push_cast, ↓brB_true, ↓brB_false, ↓reduceIte, zA, zB, zC, zD, zE, zF, zG, zH, zI, reduceCtorEq]
  all_goals repeat' (first | (apply brB_mk <;> (intro hg; (try simp only [push_cast] at hg))) | (refine ⟨_, hP, ?_⟩; simp only [push_cast, ↓brB_true, ↓brB_false, ↓reduceIte, zA, zB, zC, zD, zE, zF, zG, zH, zI, reduceCtorEq]) | apply And.intro | (intro hg; (try simp only [push_cast] at hg)))
  all_goals first | exact gA | (exact getE_dII (by omega)) | skip
  all_goals first | (refine hK9 _ ?_; clear hK9 K9) | (simp only [push_cast]; done)
  all_goals simp only [push_cast, ↓brB_true, ↓brB_false, ↓reduceIte, zA, zB, zC, zD, zE, zF, zG, zH, zI, reduceCtorEq]
  all_goals repeat' (first | (apply brB_mk <;> (intro hg; (try simp only [push_cast] at hg))) | (refine ⟨_, hP, ?_⟩; simp only [push_cast, ↓brB_true, ↓brB_false, ↓reduceIte, zA, zB, zC, zD, zE, zF, zG, zH, zI, reduceCtorEq]) | apply And.intro | (intro hg; (try simp only [push_cast] at hg)))
  all_goals first | exact gA | (exact getE_dII (by omega)) | skip
  all_goals first | (refine hK _ ?_; clear hK K) | (simp only [push_cast]; done)
  all_goals refine awp_cond rfl (fun hc => ?_) (fun hc => ?_)
  all_goals (first | (cases hc; done) | skip)
  all_goals (try simp only [push_cast] at hc)
  all_goals try (
      refine awp_seq' fun K hK => ?_
      refine awp_region tyOk tyPos [] rfl ?_
      all_goals simp only [push_cast, ↓brB_true, ↓brB_false, ↓reduceIte, zA, zB, zC, zD, zE, zF, zG, zH, zI, reduceCtorEq]
      all_goals repeat' (first | (apply brB_mk <;> (intro hg; (try simp only [push_cast] at hg))) | apply And.intro | (intro hg; (try simp only [push_cast] at hg)))
      all_goals first | exact gA | (exact getE_dII (by omega)) | skip
      all_goals first | (refine hK _ ?_; clear hK K) | (simp only [push_cast]; done)
      refine awp_ret ?_
      (try simp only [AThen, ABlk])
      refine ⟨Or.inl rfl, ?_⟩
      simp only [RetOk, resVars, resVar, push_cast, ↓brB_true, ↓brB_false, ↓reduceIte, zA, zB, zC, zD, zE, zF, zG, zH, zI, reduceCtorEq]
      have h9 : bridgeB g = false := by first | exact bridge_no1 (by with_reducible assumption) | exact bridge_no2 (by omega)
      rw [bridgeW_no h9, h9]
      all_goals first | rfl | (simp [dI, dII]; done)
      done)
  refine awp_skip ?_
  (try simp only [AThen, ABlk, reduceIte, zF]); refine hK1 _ ?_
  have hok : parityB g = true := by with_reducible assumption
  have hp24 : g.prio.length ≤ 24 := by omega
  obtain ⟨h1, h2, h3, h4, h5, h6⟩ := parity_facts hok
  refine awp_seq' fun K hK => ?_
  refine awp_region tyOk tyPos [] rfl ?_
  all_goals refine aops_cut 3 fun K9 hK9 => ?_
  all_goals simp only [push_cast, ↓brB_true, ↓brB_false, ↓reduceIte, zA, zB, zC, zD, zE, zF, zG, zH, zI, reduceCtorEq]
  all_goals repeat' (first | (apply brB_mk <;> (intro hg; (try simp only [push_cast] at hg))) | (refine ⟨_, hC, ?_⟩; simp only [push_cast, ↓brB_true, ↓brB_false, ↓reduceIte, zA, zB, zC, zD, zE, zF, zG, zH, zI, reduceCtorEq]) | apply And.intro | (intro hg; (try simp only [push_cast] at hg)))
  all_goals first | exact gA | (exact getE_dII (by omega)) | skip
  all_goals first | (refine hK9 _ ?_; clear hK9 K9) | (simp only [push_cast]; done)
  all_goals simp only [push_cast, ↓brB_true, ↓brB_false, ↓reduceIte, zA, zB, zC, zD, zE, zF, zG, zH, zI, reduceCtorEq]
  all_goals repeat' (first | (apply brB_mk <;> (intro hg; (try simp only [push_cast] at hg))) | (refine ⟨_, hC, ?_⟩; simp only [push_cast, ↓brB_true, ↓brB_false, ↓reduceIte, zA, zB, zC, zD, zE, zF, zG, zH, zI, reduceCtorEq]) | apply And.intro | (intro hg; (try simp only [push_cast] at hg)))
  all_goals first | exact gA | (exact getE_dII (by omega)) | skip
  all_goals first | (refine hK _ ?_; clear hK K) | (simp only [push_cast]; done)
  refine awp_seq' fun K2 hK2 => ?_
  refine awp_seq' fun K hK => ?_
  refine awp_region tyOk tyPos [] rfl ?_
  all_goals simp only [push_cast, ↓brB_true, ↓brB_false, ↓reduceIte, zA, zB, zC, zD, zE, zF, zG, zH, zI, reduceCtorEq]
  all_goals repeat' (first | (apply brB_mk <;> (intro hg; (try simp only [push_cast] at hg))) | apply And.intro | (intro hg; (try simp only [push_cast] at hg)))
  all_goals first | exact gA | (exact getE_dII (by omega)) | skip
  all_goals first | (refine hK _ ?_; clear hK K) | (simp only [push_cast]; done)
  refine awp_block ?_
  refine awp_loopU [3,4,5,6,7,8,9,13,28,29,30,31,32,33,34,35,36,37,38,39,40,41,42,43,44,45,46,47,48,49,50,51,52,53,54,55,56,57,58] [] (fun (v : Nat) => [(28, .int .i64 v), (4, .bp 4 0)]) (fun v => [(4, [.sl 64 [] 0 g.a.owner.length 2, .sl 65 [] 0 g.a.next.length 27, .sl 66 [] 0 v 27])]) (fun v => [(64, ⟨.ex, 2, dI g.a.owner, none⟩), (65, ⟨.ex, 27, dII g.a.next, none⟩), (66, ⟨.ex, 27, dII (bridgeR g v), none⟩)]) (fun v => v ≤ g.a.owner.length ∧ ∀ j, j < v → scoreB g.a.owner.length (gi g.prio j).toNat = true) (fun v => g.a.owner.length - v) 0 ?_ ⟨by omega, fun j hj => by omega⟩ ?_
  ·
    rw [show dII (bridgeR g 0) = [] from rfl]
    refine cov_of rfl ?_ ?_ ?_ <;> simp only [covS, covL, push_cast, ↓brB_true, ↓brB_false, ↓reduceIte, zA, zB, zC, zD, zE, zF, zG, zH, zI, reduceCtorEq]
  · rintro v ⟨hv, hall⟩ KL0 hL0
    have hbl := bridgeR_len g v
    have hrv := hr v
    simp only [push_cast, ↓brB_true, ↓brB_false, ↓reduceIte, zA, zB, zC, zD, zE, zF, zG, zH, zI, reduceCtorEq]
    refine awp_seq' fun K hK => ?_
    refine awp_region tyOk tyPos [] rfl ?_
    all_goals simp only [push_cast, ↓brB_true, ↓brB_false, ↓reduceIte, zA, zB, zC, zD, zE, zF, zG, zH, zI, reduceCtorEq]
    all_goals repeat' (first | (apply brB_mk <;> (intro hg; (try simp only [push_cast] at hg))) | apply And.intro | (intro hg; (try simp only [push_cast] at hg)))
    all_goals first | exact gA | (exact getE_dII (by omega)) | skip
    all_goals first | (refine hK _ ?_; clear hK K) | (simp only [push_cast]; done)
    refine awp_seq' fun K3 hK3 => ?_
    refine awp_cond rfl (fun hc => ?_) (fun hc => ?_) <;> (try simp only [push_cast] at hc)
    ·
      refine awp_skip ?_
      (try simp only [AThen, ABlk, reduceIte, zF]); refine hK3 _ ?_
      refine awp_seq' fun K4 hK4 => ?_
      refine awp_block ?_
      refine awp_seq' fun K hK => ?_
      refine awp_region tyOk tyPos [] rfl ?_
      all_goals simp only [push_cast, ↓brB_true, ↓brB_false, ↓reduceIte, zA, zB, zC, zD, zE, zF, zG, zH, zI, reduceCtorEq]
      all_goals repeat' (first | (apply brB_mk <;> (intro hg; (try simp only [push_cast] at hg))) | apply And.intro | (intro hg; (try simp only [push_cast] at hg)))
      all_goals first | exact gA | (exact getE_dII (by omega)) | skip
      all_goals first | (refine hK _ ?_; clear hK K) | (simp only [push_cast]; done)
      refine awp_seq' fun K hK => ?_
      refine awp_region tyOk tyPos [] rfl ?_
      all_goals refine aops_cut 3 fun K9 hK9 => ?_
      all_goals simp only [push_cast, ↓brB_true, ↓brB_false, ↓reduceIte, zA, zB, zC, zD, zE, zF, zG, zH, zI, reduceCtorEq]
      all_goals repeat' (first | (apply brB_mk <;> (intro hg; (try simp only [push_cast] at hg))) | (refine ⟨_, hSc hok v (by omega), ?_⟩; simp only [push_cast, ↓brB_true, ↓brB_false, ↓reduceIte, zA, zB, zC, zD, zE, zF, zG, zH, zI, reduceCtorEq]) | apply And.intro | (intro hg; (try simp only [push_cast] at hg)))
      all_goals first | exact gA | (exact getE_dII (by omega)) | skip
      all_goals first | (refine hK9 _ ?_; clear hK9 K9) | (simp only [push_cast]; done)
      all_goals simp only [push_cast, ↓brB_true, ↓brB_false, ↓reduceIte, zA, zB, zC, zD, zE, zF, zG, zH, zI, reduceCtorEq]
      all_goals repeat' (first | (apply brB_mk <;> (intro hg; (try simp only [push_cast] at hg))) | (refine ⟨_, hSc hok v (by omega), ?_⟩; simp only [push_cast, ↓brB_true, ↓brB_false, ↓reduceIte, zA, zB, zC, zD, zE, zF, zG, zH, zI, reduceCtorEq]) | apply And.intro | (intro hg; (try simp only [push_cast] at hg)))
      all_goals first | exact gA | (exact getE_dII (by omega)) | skip
      all_goals first | (refine hK _ ?_; clear hK K) | (simp only [push_cast]; done)
      refine awp_seq' fun K5 hK5 => ?_
      refine awp_seq' fun K hK => ?_
      refine awp_region tyOk tyPos [] rfl ?_
      all_goals simp only [push_cast, ↓brB_true, ↓brB_false, ↓reduceIte, zA, zB, zC, zD, zE, zF, zG, zH, zI, reduceCtorEq]
      all_goals repeat' (first | (apply brB_mk <;> (intro hg; (try simp only [push_cast] at hg))) | apply And.intro | (intro hg; (try simp only [push_cast] at hg)))
      all_goals first | exact gA | (exact getE_dII (by omega)) | skip
      all_goals first | (refine hK _ ?_; clear hK K) | (simp only [push_cast]; done)
      refine awp_cond rfl (fun hc => ?_) (fun hc => ?_) <;> (try simp only [push_cast] at hc)
      ·
        refine awp_seq' fun K hK => ?_
        refine awp_region tyOk tyPos [] rfl ?_
        all_goals simp only [push_cast, ↓brB_true, ↓brB_false, ↓reduceIte, zA, zB, zC, zD, zE, zF, zG, zH, zI, reduceCtorEq]
        all_goals repeat' (first | (apply brB_mk <;> (intro hg; (try simp only [push_cast] at hg))) | apply And.intro | (intro hg; (try simp only [push_cast] at hg)))
        all_goals first | exact gA | (exact getE_dII (by omega)) | skip
        all_goals first | (refine hK _ ?_; clear hK K) | (simp only [push_cast]; done)
        refine awp_ret ?_
        (try simp only [AThen, ABlk])
        refine ⟨Or.inl rfl, ?_⟩
        simp only [RetOk, resVars, resVar, push_cast, ↓brB_true, ↓brB_false, ↓reduceIte, zA, zB, zC, zD, zE, zF, zG, zH, zI, reduceCtorEq]
        have h9 : bridgeB g = false := bridge_no3 (v := v) (by omega) (by with_reducible assumption)
        rw [bridgeW_no h9, h9]
        all_goals first | rfl | (simp [dI, dII]; done)
      ·
        refine awp_skip ?_
        (try simp only [AThen, ABlk, reduceIte, zF]); refine hK5 _ ?_
        refine awp_seq' fun K hK => ?_
        refine awp_region tyOk tyPos [] rfl ?_
        all_goals simp only [push_cast, ↓brB_true, ↓brB_false, ↓reduceIte, zA, zB, zC, zD, zE, zF, zG, zH, zI, reduceCtorEq]
        all_goals repeat' (first | (apply brB_mk <;> (intro hg; (try simp only [push_cast] at hg))) | apply And.intro | (intro hg; (try simp only [push_cast] at hg)))
        all_goals first | exact gA | (exact getE_dII (by omega)) | skip
        all_goals first | (refine hK _ ?_; clear hK K) | (simp only [push_cast]; done)
        refine awp_seq' fun K6 hK6 => ?_
        refine awp_seq' fun K hK => ?_
        refine awp_region tyOk tyPos [] rfl ?_
        all_goals simp only [push_cast, ↓brB_true, ↓brB_false, ↓reduceIte, zA, zB, zC, zD, zE, zF, zG, zH, zI, reduceCtorEq]
        all_goals repeat' (first | (apply brB_mk <;> (intro hg; (try simp only [push_cast] at hg))) | apply And.intro | (intro hg; (try simp only [push_cast] at hg)))
        all_goals first | exact gA | (exact getE_dII (by omega)) | skip
        all_goals first | (refine hK _ ?_; clear hK K) | (simp only [push_cast]; done)
        refine awp_block ?_
        refine awp_loopU [9,13,45,46,47,48,49,50,51] [144] (fun (k : Nat) => [(45, .int .i64 k), (9, .sl 144 [] 0 k 2)]) (fun k => []) (fun k => [(144, ⟨.ex, 2, dI (List.replicate k (scoreV g.a.owner.length (gi g.prio v).toNat)), none⟩)]) (fun k => k ≤ (gl g.a.next v).length) (fun k => (gl g.a.next v).length - k) 0 ?_ (by omega) ?_
        ·
          rw [show dI (List.replicate 0 (scoreV g.a.owner.length (gi g.prio v).toNat)) = [] from rfl]
          refine cov_of rfl ?_ ?_ ?_ <;> simp only [covS, covL, push_cast, ↓brB_true, ↓brB_false, ↓reduceIte, zA, zB, zC, zD, zE, zF, zG, zH, zI, reduceCtorEq]
        · rintro k hk KL1 hL1
          have hkl : (List.replicate k (scoreV g.a.owner.length (gi g.prio v).toNat)).length = k := List.length_replicate ..
          simp only [push_cast, ↓brB_true, ↓brB_false, ↓reduceIte, zA, zB, zC, zD, zE, zF, zG, zH, zI, reduceCtorEq]
          refine awp_seq' fun K hK => ?_
          refine awp_region tyOk tyPos [] rfl ?_
          all_goals simp only [push_cast, ↓brB_true, ↓brB_false, ↓reduceIte, zA, zB, zC, zD, zE, zF, zG, zH, zI, reduceCtorEq]
          all_goals repeat' (first | (apply brB_mk <;> (intro hg; (try simp only [push_cast] at hg))) | apply And.intro | (intro hg; (try simp only [push_cast] at hg)))
          all_goals first | exact gA | (exact getE_dII (by omega)) | skip
          all_goals first | (refine hK _ ?_; clear hK K) | (simp only [push_cast]; done)
          refine awp_seq' fun K7 hK7 => ?_
          refine awp_cond rfl (fun hc => ?_) (fun hc => ?_) <;> (try simp only [push_cast] at hc)
          ·
            refine awp_skip ?_
            (try simp only [AThen, ABlk, reduceIte, zF]); refine hK7 _ ?_
            refine awp_seq' fun K8 hK8 => ?_
            refine awp_block ?_
            refine awp_region tyOk tyPos [] rfl ?_
            all_goals simp only [push_cast, ↓brB_true, ↓brB_false, ↓reduceIte, zA, zB, zC, zD, zE, zF, zG, zH, zI, reduceCtorEq]
            all_goals repeat' (first | (apply brB_mk <;> (intro hg; (try simp only [push_cast] at hg))) | apply And.intro | (intro hg; (try simp only [push_cast] at hg)))
            all_goals first | exact gA | (exact getE_dII (by omega)) | skip
            (try simp only [AThen, ABlk, reduceIte, zF]); refine hK8 _ ?_
            refine awp_region tyOk tyPos [] rfl ?_
            all_goals simp only [push_cast, ↓brB_true, ↓brB_false, ↓reduceIte, zA, zB, zC, zD, zE, zF, zG, zH, zI, reduceCtorEq]
            all_goals repeat' (first | (apply brB_mk <;> (intro hg; (try simp only [push_cast] at hg))) | apply And.intro | (intro hg; (try simp only [push_cast] at hg)))
            all_goals first | exact gA | (exact getE_dII (by omega)) | skip
            refine hL1 _ ⟨k + 1, by omega, by omega, ?_⟩
            (try rw [List.take_of_length_le (l := List.replicate k (scoreV g.a.owner.length (gi g.prio v).toNat)) (by omega)])
            rw [List.replicate_succ']
            refine cov_of rfl ?_ ?_ ?_ <;> simp only [covS, covL, push_cast, ↓brB_true, ↓brB_false, ↓reduceIte, zA, zB, zC, zD, zE, zF, zG, zH, zI, reduceCtorEq]
          ·
            refine awp_exit ?_
            have hkk : k = (gl g.a.next v).length := by omega
            subst hkk
            (try simp only [AThen, ABlk, reduceIte, zF]); refine hK6 _ ?_
            refine awp_regionN false tyOk tyPos ?_ rfl ?_
            · kernel_rfl
            simp only [push_cast, ↓brB_true, ↓brB_false, ↓reduceIte, zA, zB, zC, zD, zE, zF, zG, zH, zI, reduceCtorEq]
            all_goals repeat' (first | (apply brB_mk <;> (intro hg; (try simp only [push_cast] at hg))) | apply And.intro | (intro hg; (try simp only [push_cast] at hg)))
            all_goals first | exact gA | (exact getE_dII (by omega)) | skip
            (try simp only [AThen, ABlk, reduceIte, zF]); refine hK4 _ ?_
            refine awp_settleB [.sl 2, .sl 27, .sl 27] 4 ?_
            simp only [push_cast, ↓brB_true, ↓brB_false, ↓reduceIte, zA, zB, zC, zD, zE, zF, zG, zH, zI, reduceCtorEq]
            refine awp_region tyOk tyPos [] rfl ?_
            all_goals simp only [push_cast, ↓brB_true, ↓brB_false, ↓reduceIte, zA, zB, zC, zD, zE, zF, zG, zH, zI, reduceCtorEq]
            all_goals repeat' (first | (apply brB_mk <;> (intro hg; (try simp only [push_cast] at hg))) | apply And.intro | (intro hg; (try simp only [push_cast] at hg)))
            all_goals first | exact gA | (exact getE_dII (by omega)) | skip
            refine hL0 _ ⟨v + 1, ⟨by omega, fun j hj => (by
                by_cases hjv : j = v
                · subst hjv; with_reducible assumption
                · exact hall j (by omega))⟩, by omega, ?_⟩
            (try rw [List.take_of_length_le (l := bridgeR g v) (by omega)])
            (try rw [List.take_of_length_le (l := List.replicate (gl g.a.next v).length (scoreV g.a.owner.length (gi g.prio v).toNat)) (by omega)])
            rw [bridgeR_s]
            unfold rowV
            refine cov_of rfl ?_ ?_ ?_ <;> simp only [covS, covL, push_cast, ↓brB_true, ↓brB_false, ↓reduceIte, zA, zB, zC, zD, zE, zF, zG, zH, zI, reduceCtorEq]
    ·
      refine awp_exit ?_
      (try simp only [AThen, ABlk, reduceIte, zF]); refine hK2 _ ?_
      refine awp_seq' fun K hK => ?_
      refine awp_region tyOk tyPos [] rfl ?_
      all_goals simp only [push_cast, ↓brB_true, ↓brB_false, ↓reduceIte, zA, zB, zC, zD, zE, zF, zG, zH, zI, reduceCtorEq]
      all_goals repeat' (first | (apply brB_mk <;> (intro hg; (try simp only [push_cast] at hg))) | apply And.intro | (intro hg; (try simp only [push_cast] at hg)))
      all_goals first | exact gA | (exact getE_dII (by omega)) | skip
      all_goals first | (refine hK _ ?_; clear hK K) | (simp only [push_cast]; done)
      refine awp_ret ?_
      (try simp only [AThen, ABlk])
      refine ⟨Or.inl rfl, ?_⟩
      simp only [RetOk, resVars, resVar, push_cast, ↓brB_true, ↓brB_false, ↓reduceIte, zA, zB, zC, zD, zE, zF, zG, zH, zI, reduceCtorEq]
      have hkv : v = g.a.owner.length := by omega
      subst hkv
      have h9 := bridge_yes hok hp24 hall
      rw [bridgeW_yes h9, h9]
      all_goals first | rfl | (simp [bridgeR_len]; done)
end Go.Proofs.Ytdbecmmeifdafaa

namespace Go.Proofs.Ytdbecmmeifdafaa
open Go.RowKit
set_option linter.unusedVariables false
set_option linter.unusedSimpArgs false
def prv (a : Ar) (u v : Nat) : List Int := ((List.range v).filter fun (w : Nat) => hasB (gl a.next w) (u : Int)).map fun (w : Nat) => (w : Int)
def prvE (a : Ar) (v i u : Nat) : List Int := prv a u v ++ if hasB ((gl a.next v).take i) (u : Int) then [(v : Int)] else []
def prvI (a : Ar) (n v i : Nat) : List (List Int) := (List.range n).map (prvE a v i)
theorem prvI_len (a : Ar) (n v i : Nat) : (prvI a n v i).length = n := by simp [prvI]
theorem prvI_gl {a : Ar} {n v i u : Nat} (h : u < n) : gl (prvI a n v i) u = prvE a v i u := by
  unfold gl prvI
  rw [List.getD_eq_getElem?_getD, List.getElem?_map, List.getElem?_range h]
  rfl
theorem prv_zero (a : Ar) (u : Nat) : prv a u 0 = [] := rfl
theorem prvI_zero (a : Ar) (n : Nat) : prvI a n 0 0 = List.replicate n [] := by
  refine List.ext_getElem (by simp [prvI]) fun j h1 h2 => ?_
  simp [prvI, prvE, prv_zero, hasB, fidx]
theorem prv_len (a : Ar) (u v : Nat) : (prv a u v).length ≤ v := by
  unfold prv
  rw [List.length_map]
  exact Nat.le_trans (List.length_filter_le _ _) (by simp)
theorem prvE_len (a : Ar) (v i u : Nat) : (prvE a v i u).length ≤ v + 1 := by
  unfold prvE
  rw [List.length_append]
  have := prv_len a u v
  split <;> simp <;> omega
theorem prvI_next {a : Ar} {n v : Nat} : prvI a n v (gl a.next v).length = prvI a n (v + 1) 0 := by
  unfold prvI
  refine List.map_congr_left fun u _ => ?_
  unfold prvE
  rw [List.take_length, show (gl a.next (v + 1)).take 0 = [] from rfl, show hasB [] (u : Int) = false from rfl]
  unfold prv
  rw [List.range_succ, List.filter_append, List.map_append]
  by_cases h : hasB (gl a.next v) (u : Int) = true <;> simp [h]
theorem prvI_step {a : Ar} (hok : arenaB a = true) {n v i : Nat} (hv : v < a.owner.length) (hn : n = a.owner.length) (hi : i < (gl a.next v).length) :
    (prvI a n v i).set (gi (gl a.next v) i).toNat (gl (prvI a n v i) (gi (gl a.next v) i).toNat ++ [(v : Int)]) = prvI a n v (i + 1) := by
  have hs := (arenaB_at hok hv).2.2.2.2
  have hb := setB_at hs hi
  have hu : (gi (gl a.next v) i).toNat < n := by omega
  have hrise : ∀ k j, j < k → k < (gl a.next v).length → gi (gl a.next v) j < gi (gl a.next v) k := by
    intro k
    induction k with
    | zero => intro j h; omega
    | succ k ih =>
      intro j hj hk
      have := allB_at hs hk
      unfold riseAt at this
      have := of_decide_eq_true this
      have h1 : gi (gl a.next v) k < gi (gl a.next v) (k + 1) := by have := this.2.2.resolve_left (by omega); simpa using this
      rcases Nat.lt_or_ge j k with h | h
      · have := ih j h (by omega); omega
      · rw [show j = k by omega]; exact h1
  refine List.ext_getElem (by simp [prvI]) fun j h1 h2 => ?_
  rw [List.getElem_set]
  have hj : j < n := by rw [prvI_len] at h2; exact h2
  have e1 : (prvI a n v i)[j]'(by rw [prvI_len]; exact hj) = prvE a v i j := by simp [prvI]
  have e2 : (prvI a n v (i + 1))[j] = prvE a v (i + 1) j := by simp [prvI]
  rw [e2]
  have hno : hasB ((gl a.next v).take i) (gi (gl a.next v) i) = false := by
    refine Bool.eq_false_iff.2 fun h => ?_
    obtain ⟨k, hk, e⟩ := hasB_ex.1 h
    rw [List.length_take] at hk
    rw [gi_take (by omega)] at e
    have := hrise i k (by omega) hi
    omega
  split
  · rename_i e
    subst e
    rw [prvI_gl hu]
    unfold prvE
    rw [hasB_take hi, Int.toNat_of_nonneg hb.1, hno]
    simp
  · rename_i e
    rw [e1]
    unfold prvE
    rw [hasB_take hi]
    have : decide ((j : Int) = gi (gl a.next v) i) = false := decide_eq_false (by omega)
    rw [this, Bool.or_false]
theorem prvE_end (a : Ar) (n u : Nat) (h : n = a.next.length) : prvE a n 0 u = prv a u n := by
  unfold prvE
  rw [show (gl a.next n).take 0 = [] from rfl, show hasB [] (u : Int) = false from rfl]
  simp
theorem prv_mem {a : Ar} {u v : Nat} {w : Int} : w ∈ prv a u v ↔ 0 ≤ w ∧ w < v ∧ hasB (gl a.next w.toNat) (u : Int) = true := by
  unfold prv
  rw [List.mem_map]
  constructor
  · rintro ⟨k, hk, rfl⟩
    obtain ⟨h1, h2⟩ := List.mem_filter.1 hk
    have := List.mem_range.1 h1
    exact ⟨by omega, by omega, by simpa using h2⟩
  · rintro ⟨h1, h2, h3⟩
    exact ⟨w.toNat, List.mem_filter.2 ⟨List.mem_range.2 (by omega), h3⟩, by omega⟩
theorem prv_nd (a : Ar) (u v : Nat) : (prv a u v).Pairwise (· < ·) := by
  unfold prv
  rw [List.pairwise_map]
  refine List.Pairwise.imp (fun h => ?_) (List.Pairwise.filter _ List.pairwise_lt_range)
  omega
theorem gi_mem {xs : List Int} {i : Nat} (h : i < xs.length) : gi xs i ∈ xs := List.mem_of_getElem? (gi_lt h)
def l7G (g : Pa) (pick : List Int) : L7 := ⟨g.a.owner, g.prio, g.a.next, prvI g.a g.a.owner.length g.a.owner.length 0, pick⟩
theorem l7G_prev {g : Pa} (hl : g.a.next.length = g.a.owner.length) {pick : List Int} {u : Nat} (hu : u < g.a.owner.length) : gl (l7G g pick).prev u = prv g.a u g.a.owner.length := by
  show gl (prvI g.a _ _ 0) u = _
  rw [prvI_gl hu, prvE_end _ _ _ hl.symm]
theorem parityB_facts {g : Pa} (h : parityB g = true) : arenaB g.a = true ∧ g.prio.length = g.a.owner.length ∧ ∀ v, v < g.a.owner.length → 0 ≤ gi g.prio v ∧ gi g.prio v ≤ 40 := by
  unfold parityB at h
  rw [Bool.and_eq_true, Bool.and_eq_true] at h
  have h2 := of_decide_eq_true h.2.1
  exact ⟨h.1, h2, fun v hv => by have := allB_at h.2.2 (k := v) (by omega); exact of_decide_eq_true this⟩
theorem l7G_ok {g : Pa} (h : parityB g = true) {pick : List Int} (hp : pick.length = g.a.owner.length) : (l7G g pick).Ok g.a.owner.length := by
  obtain ⟨ha, hpl, hpr⟩ := parityB_facts h
  have hal := arenaB_len ha
  have hpv := fun u (hu : u < g.a.owner.length) => l7G_prev (g := g) hal.2.2 (pick := pick) hu
  refine ⟨hal.2.1, rfl, hpl, hal.2.2, prvI_len _ _ _ _, hp, fun v hv => ?_, fun v hv j hj => ?_, hpr, fun v hv => ?_, fun v hv i j hij hj => ?_, fun u hu => ?_, fun u hu m hm => ?_, fun v hv j hj => ?_, fun u hu i j hij hj => ?_⟩
  · have := (arenaB_at ha hv).2.2.2.1
    show (gl g.a.next v).length ≤ 256
    omega
  · exact setB_at (arenaB_at ha hv).2.2.2.2 hj
  · have := arenaB_at ha hv
    show gi g.a.owner v = 0 ∨ gi g.a.owner v = 1
    omega
  · have hs := (arenaB_at ha hv).2.2.2.2
    have key : ∀ k j, j < k → k < (gl g.a.next v).length → gi (gl g.a.next v) j < gi (gl g.a.next v) k := by
      intro k
      induction k with
      | zero => intro j h; omega
      | succ k ih =>
        intro j hj hk
        have := allB_at hs hk
        unfold riseAt at this
        have := of_decide_eq_true this
        have h1 : gi (gl g.a.next v) k < gi (gl g.a.next v) (k + 1) := by have := this.2.2.resolve_left (by omega); simpa using this
        rcases Nat.lt_or_ge j k with h | h
        · have := ih j h (by omega); omega
        · rw [show j = k by omega]; exact h1
    have := key j i hij hj
    show gi (gl g.a.next v) i ≠ gi (gl g.a.next v) j
    omega
  · rw [hpv u hu]
    have := prv_len g.a u g.a.owner.length
    omega
  · rw [hpv u hu] at hm ⊢
    obtain ⟨h1, h2, h3⟩ := prv_mem.1 (gi_mem hm)
    refine ⟨⟨h1, h2⟩, ?_⟩
    obtain ⟨i, hi, e⟩ := hasB_ex.1 h3
    exact ⟨i, hi, e⟩
  · have hb := setB_at (arenaB_at ha hv).2.2.2.2 hj
    have hu : (gi (gl g.a.next v) j).toNat < g.a.owner.length := by omega
    show ∃ m, m < (gl (l7G g pick).prev (gi (gl g.a.next v) j).toNat).length ∧ gi (gl (l7G g pick).prev (gi (gl g.a.next v) j).toNat) m = v
    rw [hpv _ hu]
    have hm : (v : Int) ∈ prv g.a (gi (gl g.a.next v) j).toNat g.a.owner.length := prv_mem.2 ⟨by omega, by omega, by
      rw [Int.toNat_natCast, Int.toNat_of_nonneg hb.1]
      exact hasB_ex.2 ⟨j, hj, rfl⟩⟩
    obtain ⟨m, hm1, hm2⟩ := hasB_ex.1 ((hasB_iff _ _).2 hm)
    exact ⟨m, hm1, hm2⟩
  · rw [hpv u hu] at hj ⊢
    have := List.pairwise_iff_getElem.1 (prv_nd g.a u g.a.owner.length) i j (by omega) hj hij
    unfold gi
    rw [List.getD_eq_getElem?_getD, List.getD_eq_getElem?_getD, List.getElem?_eq_getElem (by omega), List.getElem?_eq_getElem hj]
    simp only [Option.getD_some]
    omega
def noP (n : Nat) : List Int := List.replicate n (-1)
theorem noP_len (n : Nat) : (noP n).length = n := List.length_replicate ..
theorem noP_gi (n v : Nat) (h : v < n) : gi (noP n) v = -1 := gi_rep h
def allT (n : Nat) : List Bool := List.replicate n true
theorem allT_len (n : Nat) : (allT n).length = n := List.length_replicate ..
theorem allT_gb {n v : Nat} (h : v < n) : gb (allT n) v = true := by
  unfold gb allT
  rw [List.getD_eq_getElem?_getD, List.getElem?_replicate, if_pos h]
  rfl
noncomputable def wonB (g : Pa) : List Bool := winL (l7G g (noP g.a.owner.length)) g.a.owner.length (g.a.owner.length + 1) (allT g.a.owner.length)
def flagI (b : Bool) : Int := if b then 0 else 1
noncomputable def wonG (g : Pa) : List Int := (wonB g).map flagI
theorem wonB_len (g : Pa) : (wonB g).length = g.a.owner.length := winL_len _ _ _ _
theorem wonG_len (g : Pa) : (wonG g).length = g.a.owner.length := by unfold wonG; rw [List.length_map, wonB_len]
theorem wonG_gi {g : Pa} {v : Nat} (hv : v < g.a.owner.length) : gi (wonG g) v = flagI (gb (wonB g) v) := by
  unfold gi wonG gb
  rw [List.getD_eq_getElem?_getD, List.getElem?_map, List.getD_eq_getElem?_getD, List.getElem?_eq_getElem (by rw [wonB_len]; exact hv)]
  rfl
theorem LnII_gl {B : Nat} {xs : List (List Int)} {v : Nat} (h : LnII B xs) (hv : v < xs.length) : (gl xs v).length ≤ B := h.2 _ (by unfold gl; rw [List.getD_eq_getElem?_getD, List.getElem?_eq_getElem hv]; exact List.getElem_mem hv)
end Go.Proofs.Ytdbecmmeifdafaa

namespace Go.Proofs.Ytdbecmmeifdafaa
open Go.RowKit
set_option linter.unusedVariables false
set_option linter.unusedSimpArgs false

end Go.Proofs.Ytdbecmmeifdafaa

namespace Go.Proofs.Ytdbecmmeifdafaa
open Go.RowKit
set_option linter.unusedVariables false
set_option linter.unusedSimpArgs false

structure Fr where
  num : Int
  den : Int
  deriving DecidableEq
def dFr (x : Fr) : List D := [.int .i64 x.num, .int .i64 x.den]
end Go.Proofs.Ytdbecmmeifdafaa

namespace Go.Proofs.Ytdbecmmeifdafaa
open Nat renaming reduceMod → zA, reduceMul → zB, reduceDiv → zC, reduceAdd → zD, reduceSub → zE, reduceEqDiff → zF, reduceBEq → zG, reduceLT → zH, reduceLeDiff → zI
open Go.RowKit
set_option linter.unusedVariables false
set_option linter.unusedSimpArgs false

theorem natAbs_max (n : Int) : (if -n > n then -n else n) = (n.natAbs : Int) := by split <;> omega
theorem tdiv_bd {n : Int} {B : Int} (g : Int) (h : -B ≤ n ∧ n ≤ B) : -B ≤ n.tdiv g ∧ n.tdiv g ≤ B := by
  have h1 : (n.tdiv g).natAbs ≤ n.natAbs := by rw [Int.natAbs_tdiv]; exact Nat.div_le_self _ _
  omega
theorem gcd_pos' (n : Int) {d : Int} (h : 1 ≤ d) : 1 ≤ Int.gcd n d := by
  have : Int.gcd n d ≠ 0 := fun h0 => by rw [Int.gcd_eq_zero_iff] at h0; omega
  omega
theorem tmod_nat (p q : Nat) : (p : Int).tmod q = ((p % q : Nat) : Int) := by
  rw [Int.tmod_eq_emod_of_nonneg (by omega)]
  simp
def frOf (n d : Int) : Fr := ⟨n.tdiv (Int.gcd n d), d.tdiv (Int.gcd n d)⟩
def meanB (w : Wt) : Bool := weightedB w && decide (w.cost.length ≤ 8)
theorem meanB_ok {w : Wt} (h : meanB w = true) : weightedB w = true := by unfold meanB at h; rw [Bool.and_eq_true] at h; exact h.1
theorem gcd_le {n d : Int} (h : 1 ≤ d) : (Int.gcd n d : Int) ≤ d := Int.le_of_dvd (by omega) (Int.gcd_dvd_right ..)
set_option maxRecDepth 20000 in
set_option maxHeartbeats 4000000 in
theorem commonOf_fn (a b : Int) (ha : 0 ≤ a ∧ a ≤ 9223372036854775807) (hb : 0 ≤ b ∧ b ≤ 9223372036854775807) : Fn Try.prog tyT 121 [.c (.int .i64 a), .c (.int .i64 b)] [.c (.int .i64 (Int.gcd a b))] := by
  obtain ⟨x, rfl⟩ : ∃ n : Nat, a = n := ⟨a.natAbs, by omega⟩
  obtain ⟨y, rfl⟩ : ∃ n : Nat, b = n := ⟨b.natAbs, by omega⟩
  refine Fn_of (fn := Try.f121) (ts := [4]) Try.func121 (by kernel_rfl) rfl rfl (by rw [Try.ntmps121]; exact Nat.le_of_ble_eq_true rfl) rfl (by simp only [szA, List.mem_cons, List.not_mem_nil, or_false, forall_eq_or_imp, forall_eq, VT.cells, szL]; try decide) ?_
  rw [Try.ntmps121]
  simp only [push_cast, ↓brB_true, ↓brB_false, ↓reduceIte, zA, zB, zC, zD, zE, zF, zG, zH, zI, reduceCtorEq]
  refine awp_seq' fun K hK => ?_
  refine awp_region tyOk tyPos [] rfl ?_
  all_goals simp only [push_cast, ↓brB_true, ↓brB_false, ↓reduceIte, zA, zB, zC, zD, zE, zF, zG, zH, zI, reduceCtorEq]
  all_goals repeat' (first | (apply brB_mk <;> (intro hg; (try simp only [push_cast] at hg))) | apply And.intro | (intro hg; (try simp only [push_cast] at hg)))
  all_goals first | exact gA | (rw [hmd]; have := hlt (by omega); omega) | skip
  all_goals first | (refine hK _ ?_; clear hK K) | (simp only [push_cast, ↓brB_true, ↓brB_false, ↓reduceIte, zA, zB, zC, zD, zE, zF, zG, zH, zI, reduceCtorEq]; done)
  refine awp_seq' fun K1 hK1 => ?_
  refine awp_block ?_
  refine awp_loopU [0,1,5,6,7,8,9,10] [] (fun (p : Nat × Nat) => [(0, .int .i64 p.1), (1, .int .i64 p.2)]) (fun p => []) (fun p => []) (fun p => Nat.gcd p.1 p.2 = Int.gcd x y ∧ p.1 ≤ 9223372036854775807 ∧ p.2 ≤ 9223372036854775807) (fun p => p.2) (x, y) ?_ ⟨rfl, by omega, by omega⟩ ?_
  ·
    refine cov_of rfl ?_ ?_ ?_ <;> simp only [covS, covL, push_cast, ↓brB_true, ↓brB_false, ↓reduceIte, zA, zB, zC, zD, zE, zF, zG, zH, zI, reduceCtorEq]
  · rintro ⟨p, q⟩ ⟨hg, hp, hq⟩ KL0 hL0
    dsimp only at hg hp hq
    have hmd := tmod_nat p q
    have hlt : q ≠ 0 → p % q < q := fun h => Nat.mod_lt _ (by omega)
    simp only [push_cast, ↓brB_true, ↓brB_false, ↓reduceIte, zA, zB, zC, zD, zE, zF, zG, zH, zI, reduceCtorEq]
    refine awp_seq' fun K2 hK2 => ?_
    refine awp_seq' fun K hK => ?_
    refine awp_region tyOk tyPos [] rfl ?_
    all_goals simp only [push_cast, ↓brB_true, ↓brB_false, ↓reduceIte, zA, zB, zC, zD, zE, zF, zG, zH, zI, reduceCtorEq]
    all_goals repeat' (first | (apply brB_mk <;> (intro hg; (try simp only [push_cast] at hg))) | apply And.intro | (intro hg; (try simp only [push_cast] at hg)))
    all_goals first | exact gA | (rw [hmd]; have := hlt (by omega); omega) | skip
    all_goals first | (refine hK _ ?_; clear hK K) | (simp only [push_cast, ↓brB_true, ↓brB_false, ↓reduceIte, zA, zB, zC, zD, zE, zF, zG, zH, zI, reduceCtorEq]; done)
    refine awp_cond rfl (fun hc => ?_) (fun hc => ?_) <;> (try simp only [push_cast] at hc)
    ·
      refine awp_skip ?_
      (try simp only [AThen, ABlk, reduceIte, zF]); refine hK2 _ ?_
      refine awp_block ?_
      refine awp_regionD1 false tyOk tyPos tyMix ?_ rfl ?_
      · kernel_rfl
      intro E hE
      all_goals simp only [push_cast, ↓brB_true, ↓brB_false, ↓reduceIte, zA, zB, zC, zD, zE, zF, zG, zH, zI, reduceCtorEq]
      all_goals repeat' (first | (apply brB_mk <;> (intro hg; (try simp only [push_cast] at hg))) | apply And.intro | (intro hg; (try simp only [push_cast] at hg)))
      all_goals first | exact gA | (refine hE _ _ ?_ ?_; kernel_rfl) | (rw [hmd]; have := hlt (by omega); omega) | skip
      all_goals clear hE E
      refine hL0 _ ⟨(q, p % q), ⟨by rw [← hg, Nat.gcd_comm p q, Nat.gcd_rec q p, Nat.gcd_comm], by omega, by have := hlt (by omega); omega⟩, by have := hlt (by omega); dsimp only; omega, ?_⟩
      rw [hmd]
      refine cov_of rfl ?_ ?_ ?_ <;> simp only [covS, covL, push_cast, ↓brB_true, ↓brB_false, ↓reduceIte, zA, zB, zC, zD, zE, zF, zG, zH, zI, reduceCtorEq]
    ·
      refine awp_exit ?_
      (try simp only [AThen, ABlk, reduceIte, zF]); refine hK1 _ ?_
      refine awp_seq' fun K hK => ?_
      refine awp_region tyOk tyPos [] rfl ?_
      all_goals simp only [push_cast, ↓brB_true, ↓brB_false, ↓reduceIte, zA, zB, zC, zD, zE, zF, zG, zH, zI, reduceCtorEq]
      all_goals repeat' (first | (apply brB_mk <;> (intro hg; (try simp only [push_cast] at hg))) | apply And.intro | (intro hg; (try simp only [push_cast] at hg)))
      all_goals first | exact gA | (rw [hmd]; have := hlt (by omega); omega) | skip
      all_goals first | (refine hK _ ?_; clear hK K) | (simp only [push_cast, ↓brB_true, ↓brB_false, ↓reduceIte, zA, zB, zC, zD, zE, zF, zG, zH, zI, reduceCtorEq]; done)
      refine awp_ret ?_
      (try simp only [AThen, ABlk])
      refine ⟨Or.inl rfl, ?_⟩
      simp only [RetOk, push_cast, ↓brB_true, ↓brB_false, ↓reduceIte, zA, zB, zC, zD, zE, zF, zG, zH, zI, reduceCtorEq]
      have hq0 : q = 0 := by omega
      subst hq0
      rw [Nat.gcd_zero_right] at hg
      rw [hg]
set_option maxRecDepth 20000 in
set_option maxHeartbeats 4000000 in
theorem fracOf_fn (n d : Int) (hn : -1000000000000 ≤ n ∧ n ≤ 1000000000000) (hd : 1 ≤ d ∧ d ≤ 1000000000000) : Fn Try.prog tyT 81 [.c (.int .i64 n), .c (.int .i64 d)] [.agg (dFr (frOf n d))] := by
  have hg1 := gcd_pos' n hd.1
  have hg2 := gcd_le (n := n) hd.1
  have ht1 := tdiv_bd (Int.gcd n d) hn
  have ht2 := tdiv_bd (B := 1000000000000) (Int.gcd n d) ⟨by omega, hd.2⟩
  have hC := commonOf_fn (if -n > n then -n else n) d (by rw [natAbs_max]; omega) (by omega)
  rw [show Int.gcd (if -n > n then -n else n) d = Int.gcd n d from by rw [natAbs_max]; simp [Int.gcd]] at hC
  unfold dFr frOf
  refine Fn_ofR (fn := Try.f81) (rs := [.cell 4 50]) tyOk tyPos Try.func81 (by kernel_rfl) rfl rfl (by rw [Try.ntmps81]; exact Nat.le_of_ble_eq_true rfl) rfl (by simp only [szA, List.mem_cons, List.not_mem_nil, or_false, forall_eq_or_imp, forall_eq, VT.cells, szL]; try decide) ?_
  rw [Try.ntmps81]
  simp only [push_cast, ↓brB_true, ↓brB_false, ↓reduceIte, zA, zB, zC, zD, zE, zF, zG, zH, zI, reduceCtorEq]
  refine awp_seq' fun K hK => ?_
  refine awp_region tyOk tyPos [] rfl ?_
  all_goals simp only [push_cast, ↓brB_true, ↓brB_false, ↓reduceIte, zA, zB, zC, zD, zE, zF, zG, zH, zI, reduceCtorEq]
  all_goals repeat' (first | (apply brB_mk <;> (intro hg; (try simp only [push_cast] at hg))) | (refine ⟨_, hC, ?_⟩; simp only [push_cast, ↓brB_true, ↓brB_false, ↓reduceIte, zA, zB, zC, zD, zE, zF, zG, zH, zI, reduceCtorEq]) | apply And.intro | (intro hg; (try simp only [push_cast] at hg)))
  all_goals first | exact gA | (intro h0; omega) | skip
  all_goals first | (refine hK _ ?_; clear hK K) | (simp only [push_cast, ↓brB_true, ↓brB_false, ↓reduceIte, zA, zB, zC, zD, zE, zF, zG, zH, zI, reduceCtorEq]; done)
  refine awp_seq' fun K hK => ?_
  refine awp_region tyOk tyPos [] rfl ?_
  all_goals refine aops_cut 6 fun K9 hK9 => ?_
  all_goals simp only [push_cast, ↓brB_true, ↓brB_false, ↓reduceIte, zA, zB, zC, zD, zE, zF, zG, zH, zI, reduceCtorEq]
  all_goals repeat' (first | (apply brB_mk <;> (intro hg; (try simp only [push_cast] at hg))) | (refine ⟨_, hC, ?_⟩; simp only [push_cast, ↓brB_true, ↓brB_false, ↓reduceIte, zA, zB, zC, zD, zE, zF, zG, zH, zI, reduceCtorEq]) | apply And.intro | (intro hg; (try simp only [push_cast] at hg)))
  all_goals first | exact gA | (intro h0; omega) | skip
  all_goals first | (refine hK9 _ ?_; clear hK9 K9) | (simp only [push_cast, ↓brB_true, ↓brB_false, ↓reduceIte, zA, zB, zC, zD, zE, zF, zG, zH, zI, reduceCtorEq]; done)
  all_goals simp only [push_cast, ↓brB_true, ↓brB_false, ↓reduceIte, zA, zB, zC, zD, zE, zF, zG, zH, zI, reduceCtorEq]
  all_goals repeat' (first | (apply brB_mk <;> (intro hg; (try simp only [push_cast] at hg))) | (refine ⟨_, hC, ?_⟩; simp only [push_cast, ↓brB_true, ↓brB_false, ↓reduceIte, zA, zB, zC, zD, zE, zF, zG, zH, zI, reduceCtorEq]) | apply And.intro | (intro hg; (try simp only [push_cast] at hg)))
  all_goals first | exact gA | (intro h0; omega) | skip
  all_goals first | (refine hK _ ?_; clear hK K) | (simp only [push_cast, ↓brB_true, ↓brB_false, ↓reduceIte, zA, zB, zC, zD, zE, zF, zG, zH, zI, reduceCtorEq]; done)
  refine awp_seq' fun K hK => ?_
  refine awp_regionD1 false tyOk tyPos tyMix ?_ rfl ?_
  · kernel_rfl
  intro E hE
  all_goals simp only [push_cast, ↓brB_true, ↓brB_false, ↓reduceIte, zA, zB, zC, zD, zE, zF, zG, zH, zI, reduceCtorEq]
  all_goals repeat' (first | (apply brB_mk <;> (intro hg; (try simp only [push_cast] at hg))) | (refine ⟨_, hC, ?_⟩; simp only [push_cast, ↓brB_true, ↓brB_false, ↓reduceIte, zA, zB, zC, zD, zE, zF, zG, zH, zI, reduceCtorEq]) | apply And.intro | (intro hg; (try simp only [push_cast] at hg)))
  all_goals first | exact gA | (refine hE _ _ ?_ ?_; kernel_rfl) | (intro h0; omega) | skip
  all_goals clear hE E
  all_goals first | (refine hK _ ?_; clear hK K) | (simp only [push_cast, ↓brB_true, ↓brB_false, ↓reduceIte, zA, zB, zC, zD, zE, zF, zG, zH, zI, reduceCtorEq]; done)
  refine awp_ret ?_
  (try simp only [AThen, ABlk])
  refine ⟨Or.inl rfl, ?_⟩
  simp only [RetOk, resVars, resVar, push_cast, ↓brB_true, ↓brB_false, ↓reduceIte, zA, zB, zC, zD, zE, zF, zG, zH, zI, reduceCtorEq]
set_option maxRecDepth 20000 in
set_option maxHeartbeats 4000000 in
theorem isMean_fn (w : Wt) (ha : w.Ln 1048576) : Fn Try.prog tyT 72 [.agg (dWt w)] [.c (.bool (meanB w))] := by
  have hW := isWeighted_fn w ha
  have hcl := ha.cost.1
  unfold dWt at hW ⊢
  refine Fn_of (fn := Try.f72) (ts := [2]) Try.func72 (by kernel_rfl) rfl rfl (by rw [Try.ntmps72]; exact Nat.le_of_ble_eq_true rfl) rfl (by simp only [szA, List.mem_cons, List.not_mem_nil, or_false, forall_eq_or_imp, forall_eq, VT.cells, szL]; try decide) ?_
  rw [Try.ntmps72]
  simp only [push_cast, ↓brB_true, ↓brB_false, ↓reduceIte, zA, zB, zC, zD, zE, zF, zG, zH, zI, reduceCtorEq]
  refine awp_seq' fun K hK => ?_
  refine awp_region tyOk tyPos [] rfl ?_
  simp only [push_cast, ↓brB_true, ↓brB_false, ↓reduceIte, zA, zB, zC, zD, zE, zF, zG, zH, zI, reduceCtorEq]
  repeat' apply And.intro
  all_goals try exact gB
  all_goals first | (refine hK _ ?_; clear hK K) | (simp only [push_cast]; done)
  refine awp_seq' fun K hK => ?_
  refine awp_regionN false tyOk tyPos ?_ rfl ?_
  · kernel_rfl
  all_goals refine seqE_cut 2 fun K9 hK9 => ?_
  all_goals simp only [push_cast, ↓brB_true, ↓brB_false, ↓reduceIte, zA, zB, zC, zD, zE, zF, zG, zH, zI, reduceCtorEq]
  all_goals repeat' (first | (apply brB_mk <;> (intro hg; (try simp only [push_cast] at hg))) | (refine ⟨_, hW, ?_⟩; simp only [push_cast, ↓brB_true, ↓brB_false, ↓reduceIte, zA, zB, zC, zD, zE, zF, zG, zH, zI, reduceCtorEq]) | apply And.intro | (intro hg; (try simp only [push_cast] at hg)))
  all_goals try exact gA
  all_goals first | (refine hK9 _ ?_; clear hK9 K9) | (simp only [push_cast, ↓brB_true, ↓brB_false, ↓reduceIte, zA, zB, zC, zD, zE, zF, zG, zH, zI, reduceCtorEq]; done)
  all_goals simp only [push_cast, ↓brB_true, ↓brB_false, ↓reduceIte, zA, zB, zC, zD, zE, zF, zG, zH, zI, reduceCtorEq]
  all_goals repeat' (first | (apply brB_mk <;> (intro hg; (try simp only [push_cast] at hg))) | (refine ⟨_, hW, ?_⟩; simp only [push_cast, ↓brB_true, ↓brB_false, ↓reduceIte, zA, zB, zC, zD, zE, zF, zG, zH, zI, reduceCtorEq]) | apply And.intro | (intro hg; (try simp only [push_cast] at hg)))
  all_goals try exact gA
  all_goals first | (refine hK _ ?_; clear hK K) | (simp only [push_cast, ↓brB_true, ↓brB_false, ↓reduceIte, zA, zB, zC, zD, zE, zF, zG, zH, zI, reduceCtorEq]; done)
  all_goals (
      refine awp_ret ?_
      (try simp only [AThen, ABlk])
      refine ⟨Or.inl rfl, ?_⟩
      simp only [RetOk, push_cast, ↓brB_true, ↓brB_false, ↓reduceIte, zA, zB, zC, zD, zE, zF, zG, zH, zI, reduceCtorEq]
      unfold meanB
      first | (rw [show weightedB w = true from by with_reducible assumption, Bool.true_and]; exact decide_eq_decide.2 (by omega)) | (rw [show weightedB w = false from by with_reducible assumption, Bool.false_and]))
end Go.Proofs.Ytdbecmmeifdafaa
