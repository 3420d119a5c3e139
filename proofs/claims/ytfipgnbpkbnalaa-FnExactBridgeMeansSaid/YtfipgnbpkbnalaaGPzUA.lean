/- parity games and scores: both sides -/
import Derived.Test.YtfipgnbpkbnalaaGWzUA
import Derived.Test.YtfipgnbpkbnalaaTParityzUA
import Derived.Test.YtfipgnbpkbnalaaGDzUA
namespace Go.Proofs.Ytfipgnbpkbnalaa
open Nat (reduceMod reduceMul reduceDiv reduceAdd reduceSub reduceEqDiff reduceLT reduceLeDiff)
open Go.RowKit
set_option linter.unusedVariables false
set_option linter.unusedSimpArgs false

def parityB (g : Pa) : Bool := arenaB g.a && (decide (g.prio.length = g.a.owner.length) && allB g.prio.length (fun k => decide (0 ≤ gi g.prio k ∧ gi g.prio k ≤ 40)))
theorem parityB_no1 {g : Pa} (h : arenaB g.a = false) : parityB g = false := by unfold parityB; rw [h]; rfl
theorem parityB_no2 {g : Pa} (h : ¬ g.prio.length = g.a.owner.length) : parityB g = false := by unfold parityB; rw [decide_eq_false h, Bool.false_and, Bool.and_false]
theorem parityB_no3 {g : Pa} {k : Nat} (hk : k < g.prio.length) (h : ¬ (0 ≤ gi g.prio k ∧ gi g.prio k ≤ 40)) : parityB g = false := by unfold parityB; rw [allB_false hk (decide_eq_false h), Bool.and_false, Bool.and_false]
theorem parityB_yes {g : Pa} (h1 : arenaB g.a = true) (h2 : g.prio.length = g.a.owner.length) (h3 : ∀ k, k < g.prio.length → 0 ≤ gi g.prio k ∧ gi g.prio k ≤ 40) : parityB g = true := by
  unfold parityB; rw [h1, decide_eq_true h2, allB_true fun k hk => decide_eq_true (h3 k hk)]; rfl
theorem parity_facts {g : Pa} (h : parityB g = true) : arenaB g.a = true ∧ g.prio.length = g.a.owner.length ∧ 1 ≤ g.a.owner.length ∧ g.a.owner.length ≤ 256 ∧ g.a.next.length = g.a.owner.length ∧ ∀ k, k < g.prio.length → 0 ≤ gi g.prio k ∧ gi g.prio k ≤ 40 := by
  unfold parityB at h
  rw [Bool.and_eq_true, Bool.and_eq_true, decide_eq_true_eq] at h
  have hl := arenaB_len h.1
  exact ⟨h.1, h.2.1, hl.1, hl.2.1, hl.2.2, fun k hk => of_decide_eq_true (allB_at h.2.2 hk)⟩
def pw (n : Int) : Nat → Int
  | 0 => 1
  | k + 1 => pw n k * n
def sg (n : Int) (k : Nat) : Int := if k % 2 = 1 then -pw n k else pw n k
theorem pw_pos {n : Int} (h : 1 ≤ n) : ∀ k, 1 ≤ pw n k
  | 0 => Int.le_refl _
  | k + 1 => by
    have h1 := pw_pos h k
    have : 1 * n ≤ pw n k * n := Int.mul_le_mul_of_nonneg_right h1 (by omega)
    rw [pw]; omega
theorem pw_s {n : Int} (h : 1 ≤ n) (k : Nat) : pw n k ≤ pw n (k + 1) := by
  have h1 := pw_pos h k
  have : pw n k * 1 ≤ pw n k * n := Int.mul_le_mul_of_nonneg_left h (by omega)
  rw [pw]; omega
theorem pw_mono {n : Int} (h : 1 ≤ n) {j k : Nat} (hj : j ≤ k) : pw n j ≤ pw n k := by
  induction k with
  | zero => have : j = 0 := by omega
            subst this; exact Int.le_refl _
  | succ k ih =>
    by_cases e : j = k + 1
    · subst e; exact Int.le_refl _
    · exact Int.le_trans (ih (by omega)) (pw_s h k)
theorem sg_s (n : Int) (k : Nat) : sg n (k + 1) = sg n k * -n := by
  unfold sg
  rw [pw]
  by_cases h : k % 2 = 1
  · rw [if_pos h, if_neg (by omega), Int.neg_mul_neg]
  · rw [if_neg h, if_pos (by omega), Int.mul_neg]
theorem sg_abs {n : Int} (h : 1 ≤ n) (k : Nat) : sg n k = pw n k ∨ sg n k = -pw n k := by unfold sg; split <;> simp
theorem pw_le {n : Int} (h : 1 ≤ n ∧ n ≤ 256) {k : Nat} (hk : pw n k ≤ 1000) : 1 ≤ pw n (k + 1) ∧ pw n (k + 1) ≤ 256000 := by
  refine ⟨pw_pos h.1 _, ?_⟩
  have h1 := pw_pos h.1 k
  have : pw n k * n ≤ pw n k * 256 := Int.mul_le_mul_of_nonneg_left h.2 (by omega)
  rw [pw]; omega
/-- The score, and whether it is not too great. -/
def scoreB (n : Int) (p : Nat) : Bool := decide (pw n p ≤ 1000)
def scoreV (n : Int) (p : Nat) : Int := if pw n p ≤ 1000 then sg n p else 0
theorem scoreB_no {n : Int} (h : 1 ≤ n) {k p : Nat} (hk : k ≤ p) (h2 : ¬ pw n k ≤ 1000) : scoreB n p = false ∧ scoreV n p = 0 := by
  have := pw_mono h hk
  unfold scoreB scoreV
  exact ⟨decide_eq_false (by omega), if_neg (by omega)⟩
theorem scoreB_yes {n : Int} {p : Nat} (h2 : pw n p ≤ 1000) : scoreB n p = true ∧ scoreV n p = sg n p := ⟨decide_eq_true h2, if_pos h2⟩
theorem tmod2 {p : Int} (h : 0 ≤ p) : p.tmod 2 = ((p.toNat % 2 : Nat) : Int) := by
  rw [Int.tmod_eq_emod_of_nonneg h]
  omega
set_option maxRecDepth 20000 in
set_option maxHeartbeats 4000000 in
theorem ParityOkI_fn (g : Pa) (hg : g.Ln 1048576) : Fn Try.prog tyT 96 [.agg (dPa g)] [.c (.bool (parityB g))] := by
  have hpl := hg.prio
  have hno := hg.a.owner
  unfold LnI at hpl hno
  have hA := ArenaOkI_fn g.a hg.a
  unfold dAr at hA
  unfold dPa
  refine Fn_of (fn := Try.f96) (ts := [2]) Try.func96 (by kernel_rfl) rfl rfl (by rw [Try.ntmps96]; exact Nat.le_of_ble_eq_true rfl) rfl (by simp only [szA, List.mem_cons, List.not_mem_nil, or_false, forall_eq_or_imp, forall_eq, VT.cells, szL]; try decide) ?_
  rw [Try.ntmps96]
  simp only [push_cast, ↓brB_true, ↓brB_false, ↓reduceIte, reduceMod, reduceMul, reduceDiv, reduceAdd, reduceSub, reduceEqDiff, Nat.reduceBEq, reduceLT, reduceLeDiff, reduceCtorEq]
  refine awp_seq' fun K hK => ?_
  refine awp_region tyOk tyPos [] rfl ?_
  simp only [push_cast, ↓brB_true, ↓brB_false, ↓reduceIte, reduceMod, reduceMul, reduceDiv, reduceAdd, reduceSub, reduceEqDiff, Nat.reduceBEq, reduceLT, reduceLeDiff, reduceCtorEq]
  repeat' apply And.intro
  all_goals first | exact True.intro | exact rfl | omega | with_reducible assumption | (simp only [List.length_set, List.length_append, List.length_replicate, List.length_cons, List.length_nil]; omega) | skip
  all_goals first | (refine hK _ ?_; clear hK K) | (simp only [push_cast]; done)
  refine awp_seq' fun K1 hK1 => ?_
  refine awp_seq' fun K hK => ?_
  refine awp_regionN false tyOk tyPos ?_ rfl ?_
  · kernel_rfl
  all_goals refine seqE_cut 3 fun K9 hK9 => ?_
  all_goals simp only [push_cast, ↓brB_true, ↓brB_false, ↓reduceIte, reduceMod, reduceMul, reduceDiv, reduceAdd, reduceSub, reduceEqDiff, Nat.reduceBEq, reduceLT, reduceLeDiff, reduceCtorEq]
  all_goals repeat' (first | (apply brB_mk <;> (intro hg; (try simp only [push_cast] at hg))) | (refine ⟨_, hA, ?_⟩; simp only [push_cast, ↓brB_true, ↓brB_false, ↓reduceIte, reduceMod, reduceMul, reduceDiv, reduceAdd, reduceSub, reduceEqDiff, Nat.reduceBEq, reduceLT, reduceLeDiff, reduceCtorEq]) | apply And.intro | (intro hg; (try simp only [push_cast] at hg)))
  all_goals first | exact True.intro | exact rfl | contradiction | omega | with_reducible assumption | skip
  all_goals first | (refine hK9 _ ?_; clear hK9 K9) | (simp only [push_cast]; done)
  all_goals simp only [push_cast, ↓brB_true, ↓brB_false, ↓reduceIte, reduceMod, reduceMul, reduceDiv, reduceAdd, reduceSub, reduceEqDiff, Nat.reduceBEq, reduceLT, reduceLeDiff, reduceCtorEq]
  all_goals repeat' (first | (apply brB_mk <;> (intro hg; (try simp only [push_cast] at hg))) | (refine ⟨_, hA, ?_⟩; simp only [push_cast, ↓brB_true, ↓brB_false, ↓reduceIte, reduceMod, reduceMul, reduceDiv, reduceAdd, reduceSub, reduceEqDiff, Nat.reduceBEq, reduceLT, reduceLeDiff, reduceCtorEq]) | apply And.intro | (intro hg; (try simp only [push_cast] at hg)))
  all_goals first | exact True.intro | exact rfl | contradiction | omega | with_reducible assumption | skip
  all_goals first | (refine hK _ ?_; clear hK K) | (simp only [push_cast]; done)
  all_goals refine awp_cond rfl (fun hc => ?_) (fun hc => ?_)
  all_goals (first | (cases hc; done) | skip)
  all_goals (try simp only [push_cast] at hc)
  all_goals try (
      refine awp_seq' fun K hK => ?_
      refine awp_region tyOk tyPos [] rfl ?_
      simp only [push_cast, ↓brB_true, ↓brB_false, ↓reduceIte, reduceMod, reduceMul, reduceDiv, reduceAdd, reduceSub, reduceEqDiff, Nat.reduceBEq, reduceLT, reduceLeDiff, reduceCtorEq]
      repeat' apply And.intro
      all_goals first | exact True.intro | exact rfl | omega | with_reducible assumption | (simp only [List.length_set, List.length_append, List.length_replicate, List.length_cons, List.length_nil]; omega) | skip
      all_goals first | (refine hK _ ?_; clear hK K) | (simp only [push_cast]; done)
      refine awp_ret ?_
      (try simp only [AThen, ABlk])
      refine ⟨Or.inl rfl, ?_⟩
      simp only [RetOk, push_cast, ↓brB_true, ↓brB_false, ↓reduceIte, reduceMod, reduceMul, reduceDiv, reduceAdd, reduceSub, reduceEqDiff, Nat.reduceBEq, reduceLT, reduceLeDiff, reduceCtorEq]
      symm
      first | exact parityB_no1 (by with_reducible assumption) | exact parityB_no2 (by omega)
      done)
  refine awp_skip ?_
  (try simp only [AThen, ABlk, reduceIte, reduceEqDiff]); refine hK1 _ ?_
  refine awp_seq' fun K2 hK2 => ?_
  refine awp_seq' fun K hK => ?_
  refine awp_region tyOk tyPos [] rfl ?_
  simp only [push_cast, ↓brB_true, ↓brB_false, ↓reduceIte, reduceMod, reduceMul, reduceDiv, reduceAdd, reduceSub, reduceEqDiff, Nat.reduceBEq, reduceLT, reduceLeDiff, reduceCtorEq]
  repeat' apply And.intro
  all_goals first | exact True.intro | exact rfl | omega | with_reducible assumption | (simp only [List.length_set, List.length_append, List.length_replicate, List.length_cons, List.length_nil]; omega) | skip
  all_goals first | (refine hK _ ?_; clear hK K) | (simp only [push_cast]; done)
  refine awp_block ?_
  refine awp_loopU [2,4,9,22,23,24,25,26,27,28,29,30,31,32] [] (fun (k : Nat) => [(22, .int .i64 k)]) (fun k => []) (fun k => []) (fun k => k ≤ g.prio.length ∧ ∀ j, j < k → 0 ≤ gi g.prio j ∧ gi g.prio j ≤ 40) (fun k => g.prio.length - k) 0 ?_ ⟨by omega, fun j hj => by omega⟩ ?_
  ·
    refine cov_of rfl ?_ ?_ ?_ <;> simp only [covS, covL, push_cast, ↓brB_true, ↓brB_false, ↓reduceIte, reduceMod, reduceMul, reduceDiv, reduceAdd, reduceSub, reduceEqDiff, Nat.reduceBEq, reduceLT, reduceLeDiff, reduceCtorEq]
  · rintro k ⟨hk, hall⟩ KL0 hL0
    simp only [push_cast, ↓brB_true, ↓brB_false, ↓reduceIte, reduceMod, reduceMul, reduceDiv, reduceAdd, reduceSub, reduceEqDiff, Nat.reduceBEq, reduceLT, reduceLeDiff, reduceCtorEq]
    refine awp_seq' fun K hK => ?_
    refine awp_region tyOk tyPos [] rfl ?_
    simp only [push_cast, ↓brB_true, ↓brB_false, ↓reduceIte, reduceMod, reduceMul, reduceDiv, reduceAdd, reduceSub, reduceEqDiff, Nat.reduceBEq, reduceLT, reduceLeDiff, reduceCtorEq]
    repeat' apply And.intro
    all_goals first | exact True.intro | exact rfl | omega | with_reducible assumption | (simp only [List.length_set, List.length_append, List.length_replicate, List.length_cons, List.length_nil]; omega) | skip
    all_goals first | (refine hK _ ?_; clear hK K) | (simp only [push_cast]; done)
    refine awp_seq' fun K3 hK3 => ?_
    refine awp_cond rfl (fun hc => ?_) (fun hc => ?_) <;> (try simp only [push_cast] at hc)
    ·
      refine awp_skip ?_
      (try simp only [AThen, ABlk, reduceIte, reduceEqDiff]); refine hK3 _ ?_
      refine awp_seq' fun K4 hK4 => ?_
      refine awp_block ?_
      refine awp_seq' fun K hK => ?_
      refine awp_region tyOk tyPos [] rfl ?_
      simp only [push_cast, ↓brB_true, ↓brB_false, ↓reduceIte, reduceMod, reduceMul, reduceDiv, reduceAdd, reduceSub, reduceEqDiff, Nat.reduceBEq, reduceLT, reduceLeDiff, reduceCtorEq]
      repeat' apply And.intro
      all_goals first | exact True.intro | exact rfl | omega | with_reducible assumption | (simp only [List.length_set, List.length_append, List.length_replicate, List.length_cons, List.length_nil]; omega) | skip
      all_goals first | (refine hK _ ?_; clear hK K) | (simp only [push_cast]; done)
      refine awp_seq' fun K hK => ?_
      refine awp_regionN false tyOk tyPos ?_ rfl ?_
      · kernel_rfl
      all_goals simp only [push_cast, ↓brB_true, ↓brB_false, ↓reduceIte, reduceMod, reduceMul, reduceDiv, reduceAdd, reduceSub, reduceEqDiff, Nat.reduceBEq, reduceLT, reduceLeDiff, reduceCtorEq]
      all_goals repeat' (first | (apply brB_mk <;> (intro hg; (try simp only [push_cast] at hg))) | (refine ⟨_, hA, ?_⟩; simp only [push_cast, ↓brB_true, ↓brB_false, ↓reduceIte, reduceMod, reduceMul, reduceDiv, reduceAdd, reduceSub, reduceEqDiff, Nat.reduceBEq, reduceLT, reduceLeDiff, reduceCtorEq]) | apply And.intro | (intro hg; (try simp only [push_cast] at hg)))
      all_goals first | exact True.intro | exact rfl | contradiction | omega | with_reducible assumption | skip
      all_goals first | (refine hK _ ?_; clear hK K) | (simp only [push_cast]; done)
      all_goals refine awp_cond rfl (fun hc => ?_) (fun hc => ?_)
      all_goals (first | (cases hc; done) | skip)
      all_goals (try simp only [push_cast] at hc)
      all_goals try (
          refine awp_seq' fun K hK => ?_
          refine awp_region tyOk tyPos [] rfl ?_
          simp only [push_cast, ↓brB_true, ↓brB_false, ↓reduceIte, reduceMod, reduceMul, reduceDiv, reduceAdd, reduceSub, reduceEqDiff, Nat.reduceBEq, reduceLT, reduceLeDiff, reduceCtorEq]
          repeat' apply And.intro
          all_goals first | exact True.intro | exact rfl | omega | with_reducible assumption | (simp only [List.length_set, List.length_append, List.length_replicate, List.length_cons, List.length_nil]; omega) | skip
          all_goals first | (refine hK _ ?_; clear hK K) | (simp only [push_cast]; done)
          refine awp_ret ?_
          (try simp only [AThen, ABlk])
          refine ⟨Or.inl rfl, ?_⟩
          simp only [RetOk, push_cast, ↓brB_true, ↓brB_false, ↓reduceIte, reduceMod, reduceMul, reduceDiv, reduceAdd, reduceSub, reduceEqDiff, Nat.reduceBEq, reduceLT, reduceLeDiff, reduceCtorEq]
          symm
          exact parityB_no3 (k := k) (by omega) (by omega)
          done)
      refine awp_skip ?_
      (try simp only [AThen, ABlk, reduceIte, reduceEqDiff]); refine hK4 _ ?_
      refine awp_region tyOk tyPos [] rfl ?_
      simp only [push_cast, ↓brB_true, ↓brB_false, ↓reduceIte, reduceMod, reduceMul, reduceDiv, reduceAdd, reduceSub, reduceEqDiff, Nat.reduceBEq, reduceLT, reduceLeDiff, reduceCtorEq]
      repeat' apply And.intro
      all_goals first | exact True.intro | exact rfl | omega | with_reducible assumption | (simp only [List.length_set, List.length_append, List.length_replicate, List.length_cons, List.length_nil]; omega) | skip
      refine hL0 _ ⟨k + 1, ⟨by omega, fun j hj => (by
          by_cases hjk : j = k
          · subst hjk; omega
          · exact hall j (by omega))⟩, by omega, ?_⟩
      refine cov_of rfl ?_ ?_ ?_ <;> simp only [covS, covL, push_cast, ↓brB_true, ↓brB_false, ↓reduceIte, reduceMod, reduceMul, reduceDiv, reduceAdd, reduceSub, reduceEqDiff, Nat.reduceBEq, reduceLT, reduceLeDiff, reduceCtorEq]
    ·
      refine awp_exit ?_
      (try simp only [AThen, ABlk, reduceIte, reduceEqDiff]); refine hK2 _ ?_
      refine awp_seq' fun K hK => ?_
      refine awp_region tyOk tyPos [] rfl ?_
      simp only [push_cast, ↓brB_true, ↓brB_false, ↓reduceIte, reduceMod, reduceMul, reduceDiv, reduceAdd, reduceSub, reduceEqDiff, Nat.reduceBEq, reduceLT, reduceLeDiff, reduceCtorEq]
      repeat' apply And.intro
      all_goals first | exact True.intro | exact rfl | omega | with_reducible assumption | (simp only [List.length_set, List.length_append, List.length_replicate, List.length_cons, List.length_nil]; omega) | skip
      all_goals first | (refine hK _ ?_; clear hK K) | (simp only [push_cast]; done)
      refine awp_ret ?_
      (try simp only [AThen, ABlk])
      refine ⟨Or.inl rfl, ?_⟩
      simp only [RetOk, push_cast, ↓brB_true, ↓brB_false, ↓reduceIte, reduceMod, reduceMul, reduceDiv, reduceAdd, reduceSub, reduceEqDiff, Nat.reduceBEq, reduceLT, reduceLeDiff, reduceCtorEq]
      symm
      exact parityB_yes (by with_reducible assumption) (by omega) fun j hj => hall j (by omega)
set_option maxRecDepth 20000 in
set_option maxHeartbeats 4000000 in
theorem ParityOkS_fn (g : Pa) (hg : g.Ln 1048576) : Fn Try.prog tyT 99 [.agg (dPa g)] [.c (.bool (parityB g))] := by
  have hpl := hg.prio
  have hno := hg.a.owner
  unfold LnI at hpl hno
  have hA := ArenaOkS_fn g.a hg.a
  unfold dAr at hA
  unfold dPa
  refine Fn_of (fn := Try.f99) (ts := [2]) Try.func99 (by kernel_rfl) rfl rfl (by rw [Try.ntmps99]; exact Nat.le_of_ble_eq_true rfl) rfl (by simp only [szA, List.mem_cons, List.not_mem_nil, or_false, forall_eq_or_imp, forall_eq, VT.cells, szL]; try decide) ?_
  rw [Try.ntmps99]
  simp only [push_cast, ↓brB_true, ↓brB_false, ↓reduceIte, reduceMod, reduceMul, reduceDiv, reduceAdd, reduceSub, reduceEqDiff, Nat.reduceBEq, reduceLT, reduceLeDiff, reduceCtorEq]
  refine awp_seq' fun K hK => ?_
  refine awp_region tyOk tyPos [] rfl ?_
  simp only [push_cast, ↓brB_true, ↓brB_false, ↓reduceIte, reduceMod, reduceMul, reduceDiv, reduceAdd, reduceSub, reduceEqDiff, Nat.reduceBEq, reduceLT, reduceLeDiff, reduceCtorEq]
  repeat' apply And.intro
  all_goals first | exact True.intro | exact rfl | omega | with_reducible assumption | (simp only [List.length_set, List.length_append, List.length_replicate, List.length_cons, List.length_nil]; omega) | skip
  all_goals first | (refine hK _ ?_; clear hK K) | (simp only [push_cast]; done)
  refine awp_seq' fun K1 hK1 => ?_
  refine awp_seq' fun K hK => ?_
  refine awp_regionN false tyOk tyPos ?_ rfl ?_
  · kernel_rfl
  all_goals refine seqE_cut 3 fun K9 hK9 => ?_
  all_goals simp only [push_cast, ↓brB_true, ↓brB_false, ↓reduceIte, reduceMod, reduceMul, reduceDiv, reduceAdd, reduceSub, reduceEqDiff, Nat.reduceBEq, reduceLT, reduceLeDiff, reduceCtorEq]
  all_goals repeat' (first | (apply brB_mk <;> (intro hg; (try simp only [push_cast] at hg))) | (refine ⟨_, hA, ?_⟩; simp only [push_cast, ↓brB_true, ↓brB_false, ↓reduceIte, reduceMod, reduceMul, reduceDiv, reduceAdd, reduceSub, reduceEqDiff, Nat.reduceBEq, reduceLT, reduceLeDiff, reduceCtorEq]) | apply And.intro | (intro hg; (try simp only [push_cast] at hg)))
  all_goals first | exact True.intro | exact rfl | contradiction | omega | with_reducible assumption | skip
  all_goals first | (refine hK9 _ ?_; clear hK9 K9) | (simp only [push_cast]; done)
  all_goals simp only [push_cast, ↓brB_true, ↓brB_false, ↓reduceIte, reduceMod, reduceMul, reduceDiv, reduceAdd, reduceSub, reduceEqDiff, Nat.reduceBEq, reduceLT, reduceLeDiff, reduceCtorEq]
  all_goals repeat' (first | (apply brB_mk <;> (intro hg; (try simp only [push_cast] at hg))) | (refine ⟨_, hA, ?_⟩; simp only [push_cast, ↓brB_true, ↓brB_false, ↓reduceIte, reduceMod, reduceMul, reduceDiv, reduceAdd, reduceSub, reduceEqDiff, Nat.reduceBEq, reduceLT, reduceLeDiff, reduceCtorEq]) | apply And.intro | (intro hg; (try simp only [push_cast] at hg)))
  all_goals first | exact True.intro | exact rfl | contradiction | omega | with_reducible assumption | skip
  all_goals first | (refine hK _ ?_; clear hK K) | (simp only [push_cast]; done)
  all_goals refine awp_cond rfl (fun hc => ?_) (fun hc => ?_)
  all_goals (first | (cases hc; done) | skip)
  all_goals (try simp only [push_cast] at hc)
  all_goals try (
      refine awp_seq' fun K hK => ?_
      refine awp_region tyOk tyPos [] rfl ?_
      simp only [push_cast, ↓brB_true, ↓brB_false, ↓reduceIte, reduceMod, reduceMul, reduceDiv, reduceAdd, reduceSub, reduceEqDiff, Nat.reduceBEq, reduceLT, reduceLeDiff, reduceCtorEq]
      repeat' apply And.intro
      all_goals first | exact True.intro | exact rfl | omega | with_reducible assumption | (simp only [List.length_set, List.length_append, List.length_replicate, List.length_cons, List.length_nil]; omega) | skip
      all_goals first | (refine hK _ ?_; clear hK K) | (simp only [push_cast]; done)
      refine awp_ret ?_
      (try simp only [AThen, ABlk])
      refine ⟨Or.inl rfl, ?_⟩
      simp only [RetOk, push_cast, ↓brB_true, ↓brB_false, ↓reduceIte, reduceMod, reduceMul, reduceDiv, reduceAdd, reduceSub, reduceEqDiff, Nat.reduceBEq, reduceLT, reduceLeDiff, reduceCtorEq]
      symm
      first | exact parityB_no1 (by with_reducible assumption) | exact parityB_no2 (by omega)
      done)
  refine awp_skip ?_
  (try simp only [AThen, ABlk, reduceIte, reduceEqDiff]); refine hK1 _ ?_
  refine awp_seq' fun K2 hK2 => ?_
  refine awp_seq' fun K hK => ?_
  refine awp_region tyOk tyPos [] rfl ?_
  simp only [push_cast, ↓brB_true, ↓brB_false, ↓reduceIte, reduceMod, reduceMul, reduceDiv, reduceAdd, reduceSub, reduceEqDiff, Nat.reduceBEq, reduceLT, reduceLeDiff, reduceCtorEq]
  repeat' apply And.intro
  all_goals first | exact True.intro | exact rfl | omega | with_reducible assumption | (simp only [List.length_set, List.length_append, List.length_replicate, List.length_cons, List.length_nil]; omega) | skip
  all_goals first | (refine hK _ ?_; clear hK K) | (simp only [push_cast]; done)
  refine awp_block ?_
  refine awp_loopU [2,3,8,18,19,20,21,22,23,24,25,26,27,28,29,30,31] [] (fun (k : Nat) => [(3, .int .i64 k)]) (fun k => []) (fun k => []) (fun k => k ≤ g.prio.length ∧ ∀ j, j < k → 0 ≤ gi g.prio j ∧ gi g.prio j ≤ 40) (fun k => g.prio.length - k) 0 ?_ ⟨by omega, fun j hj => by omega⟩ ?_
  ·
    refine cov_of rfl ?_ ?_ ?_ <;> simp only [covS, covL, push_cast, ↓brB_true, ↓brB_false, ↓reduceIte, reduceMod, reduceMul, reduceDiv, reduceAdd, reduceSub, reduceEqDiff, Nat.reduceBEq, reduceLT, reduceLeDiff, reduceCtorEq]
  · rintro k ⟨hk, hall⟩ KL0 hL0
    simp only [push_cast, ↓brB_true, ↓brB_false, ↓reduceIte, reduceMod, reduceMul, reduceDiv, reduceAdd, reduceSub, reduceEqDiff, Nat.reduceBEq, reduceLT, reduceLeDiff, reduceCtorEq]
    refine awp_seq' fun K3 hK3 => ?_
    refine awp_seq' fun K hK => ?_
    refine awp_region tyOk tyPos [] rfl ?_
    simp only [push_cast, ↓brB_true, ↓brB_false, ↓reduceIte, reduceMod, reduceMul, reduceDiv, reduceAdd, reduceSub, reduceEqDiff, Nat.reduceBEq, reduceLT, reduceLeDiff, reduceCtorEq]
    repeat' apply And.intro
    all_goals first | exact True.intro | exact rfl | omega | with_reducible assumption | (simp only [List.length_set, List.length_append, List.length_replicate, List.length_cons, List.length_nil]; omega) | skip
    all_goals first | (refine hK _ ?_; clear hK K) | (simp only [push_cast]; done)
    refine awp_cond rfl (fun hc => ?_) (fun hc => ?_) <;> (try simp only [push_cast] at hc)
    ·
      refine awp_skip ?_
      (try simp only [AThen, ABlk, reduceIte, reduceEqDiff]); refine hK3 _ ?_
      refine awp_seq' fun K4 hK4 => ?_
      refine awp_block ?_
      refine awp_seq' fun K hK => ?_
      refine awp_region tyOk tyPos [] rfl ?_
      all_goals refine aops_cut 6 fun K9 hK9 => ?_
      all_goals simp only [push_cast, ↓brB_true, ↓brB_false, ↓reduceIte, reduceMod, reduceMul, reduceDiv, reduceAdd, reduceSub, reduceEqDiff, Nat.reduceBEq, reduceLT, reduceLeDiff, reduceCtorEq]
      all_goals repeat' (first | (apply brB_mk <;> (intro hg; (try simp only [push_cast] at hg))) | (refine ⟨_, l1In_fn _ _ _, ?_⟩; simp only [push_cast, ↓brB_true, ↓brB_false, ↓reduceIte, reduceMod, reduceMul, reduceDiv, reduceAdd, reduceSub, reduceEqDiff, Nat.reduceBEq, reduceLT, reduceLeDiff, reduceCtorEq]) | apply And.intro | (intro hg; (try simp only [push_cast] at hg)))
      all_goals first | exact True.intro | exact rfl | contradiction | omega | with_reducible assumption | skip
      all_goals first | (refine hK9 _ ?_; clear hK9 K9) | (simp only [push_cast]; done)
      all_goals simp only [push_cast, ↓brB_true, ↓brB_false, ↓reduceIte, reduceMod, reduceMul, reduceDiv, reduceAdd, reduceSub, reduceEqDiff, Nat.reduceBEq, reduceLT, reduceLeDiff, reduceCtorEq]
      all_goals repeat' (first | (apply brB_mk <;> (intro hg; (try simp only [push_cast] at hg))) | (refine ⟨_, l1In_fn _ _ _, ?_⟩; simp only [push_cast, ↓brB_true, ↓brB_false, ↓reduceIte, reduceMod, reduceMul, reduceDiv, reduceAdd, reduceSub, reduceEqDiff, Nat.reduceBEq, reduceLT, reduceLeDiff, reduceCtorEq]) | apply And.intro | (intro hg; (try simp only [push_cast] at hg)))
      all_goals first | exact True.intro | exact rfl | contradiction | omega | with_reducible assumption | skip
      all_goals first | (refine hK _ ?_; clear hK K) | (simp only [push_cast]; done)
      refine awp_cond rfl (fun hc => ?_) (fun hc => ?_) <;> (try simp only [push_cast] at hc)
      ·
        refine awp_seq' fun K hK => ?_
        refine awp_region tyOk tyPos [] rfl ?_
        simp only [push_cast, ↓brB_true, ↓brB_false, ↓reduceIte, reduceMod, reduceMul, reduceDiv, reduceAdd, reduceSub, reduceEqDiff, Nat.reduceBEq, reduceLT, reduceLeDiff, reduceCtorEq]
        repeat' apply And.intro
        all_goals first | exact True.intro | exact rfl | omega | with_reducible assumption | (simp only [List.length_set, List.length_append, List.length_replicate, List.length_cons, List.length_nil]; omega) | skip
        all_goals first | (refine hK _ ?_; clear hK K) | (simp only [push_cast]; done)
        refine awp_ret ?_
        (try simp only [AThen, ABlk])
        refine ⟨Or.inl rfl, ?_⟩
        simp only [RetOk, push_cast, ↓brB_true, ↓brB_false, ↓reduceIte, reduceMod, reduceMul, reduceDiv, reduceAdd, reduceSub, reduceEqDiff, Nat.reduceBEq, reduceLT, reduceLeDiff, reduceCtorEq]
        symm
        exact parityB_no3 (k := k) (by omega) (by omega)
      ·
        refine awp_skip ?_
        (try simp only [AThen, ABlk, reduceIte, reduceEqDiff]); refine hK4 _ ?_
        refine awp_region tyOk tyPos [] rfl ?_
        simp only [push_cast, ↓brB_true, ↓brB_false, ↓reduceIte, reduceMod, reduceMul, reduceDiv, reduceAdd, reduceSub, reduceEqDiff, Nat.reduceBEq, reduceLT, reduceLeDiff, reduceCtorEq]
        repeat' apply And.intro
        all_goals first | exact True.intro | exact rfl | omega | with_reducible assumption | (simp only [List.length_set, List.length_append, List.length_replicate, List.length_cons, List.length_nil]; omega) | skip
        refine hL0 _ ⟨k + 1, ⟨by omega, fun j hj => (by
            by_cases hjk : j = k
            · subst hjk; omega
            · exact hall j (by omega))⟩, by omega, ?_⟩
        refine cov_of rfl ?_ ?_ ?_ <;> simp only [covS, covL, push_cast, ↓brB_true, ↓brB_false, ↓reduceIte, reduceMod, reduceMul, reduceDiv, reduceAdd, reduceSub, reduceEqDiff, Nat.reduceBEq, reduceLT, reduceLeDiff, reduceCtorEq]
    ·
      refine awp_exit ?_
      (try simp only [AThen, ABlk, reduceIte, reduceEqDiff]); refine hK2 _ ?_
      refine awp_seq' fun K hK => ?_
      refine awp_region tyOk tyPos [] rfl ?_
      simp only [push_cast, ↓brB_true, ↓brB_false, ↓reduceIte, reduceMod, reduceMul, reduceDiv, reduceAdd, reduceSub, reduceEqDiff, Nat.reduceBEq, reduceLT, reduceLeDiff, reduceCtorEq]
      repeat' apply And.intro
      all_goals first | exact True.intro | exact rfl | omega | with_reducible assumption | (simp only [List.length_set, List.length_append, List.length_replicate, List.length_cons, List.length_nil]; omega) | skip
      all_goals first | (refine hK _ ?_; clear hK K) | (simp only [push_cast]; done)
      refine awp_ret ?_
      (try simp only [AThen, ABlk])
      refine ⟨Or.inl rfl, ?_⟩
      simp only [RetOk, push_cast, ↓brB_true, ↓brB_false, ↓reduceIte, reduceMod, reduceMul, reduceDiv, reduceAdd, reduceSub, reduceEqDiff, Nat.reduceBEq, reduceLT, reduceLeDiff, reduceCtorEq]
      symm
      exact parityB_yes (by with_reducible assumption) (by omega) fun j hj => hall j (by omega)
set_option maxRecDepth 20000 in
set_option maxHeartbeats 4000000 in
theorem scoreOf_fn (g : Pa) (hg : g.Ln 1048576) (hok : parityB g = true) (v : Nat) (hv : v < g.a.owner.length) : Fn Try.prog tyT 98 [.agg (dPa g), .c (.int .i64 v)] [.c (.int .i64 (scoreV g.a.owner.length (gi g.prio v).toNat)), .c (.bool (scoreB g.a.owner.length (gi g.prio v).toNat))] := by
  have hpl := hg.prio
  have hno := hg.a.owner
  unfold LnI at hpl hno
  obtain ⟨h1, h2, h3, h4, h5, h6⟩ := parity_facts hok
  have hpv := h6 v (by omega)
  have hS := size_fn g.a
  have hn1 : (1 : Int) ≤ (g.a.owner.length : Int) := by omega
  have hnn : (1 : Int) ≤ (g.a.owner.length : Int) ∧ (g.a.owner.length : Int) ≤ 256 := by omega
  unfold dAr at hS
  unfold dPa
  refine Fn_of (fn := Try.f98) (ts := [4, 5]) Try.func98 (by kernel_rfl) rfl rfl (by rw [Try.ntmps98]; exact Nat.le_of_ble_eq_true rfl) rfl (by simp only [szA, List.mem_cons, List.not_mem_nil, or_false, forall_eq_or_imp, forall_eq, VT.cells, szL]; try decide) ?_
  rw [Try.ntmps98]
  simp only [push_cast, ↓brB_true, ↓brB_false, ↓reduceIte, reduceMod, reduceMul, reduceDiv, reduceAdd, reduceSub, reduceEqDiff, Nat.reduceBEq, reduceLT, reduceLeDiff, reduceCtorEq]
  refine awp_seq' fun K hK => ?_
  refine awp_region tyOk tyPos [] rfl ?_
  all_goals simp only [push_cast, ↓brB_true, ↓brB_false, ↓reduceIte, reduceMod, reduceMul, reduceDiv, reduceAdd, reduceSub, reduceEqDiff, Nat.reduceBEq, reduceLT, reduceLeDiff, reduceCtorEq]
  all_goals repeat' (first | (apply brB_mk <;> (intro hg; (try simp only [push_cast] at hg))) | apply And.intro | (intro hg; (try simp only [push_cast] at hg)))
  all_goals first | exact True.intro | exact rfl | contradiction | omega | with_reducible assumption | (rw [← hs1]; omega) | skip
  all_goals first | (refine hK _ ?_; clear hK K) | (simp only [push_cast]; done)
  refine awp_seq' fun K hK => ?_
  refine awp_region tyOk tyPos [] rfl ?_
  all_goals simp only [push_cast, ↓brB_true, ↓brB_false, ↓reduceIte, reduceMod, reduceMul, reduceDiv, reduceAdd, reduceSub, reduceEqDiff, Nat.reduceBEq, reduceLT, reduceLeDiff, reduceCtorEq]
  all_goals repeat' (first | (apply brB_mk <;> (intro hg; (try simp only [push_cast] at hg))) | apply And.intro | (intro hg; (try simp only [push_cast] at hg)))
  all_goals first | exact True.intro | exact rfl | contradiction | omega | with_reducible assumption | (rw [← hs1]; omega) | skip
  all_goals first | (refine hK _ ?_; clear hK K) | (simp only [push_cast]; done)
  refine awp_seq' fun K1 hK1 => ?_
  refine awp_seq' fun K hK => ?_
  refine awp_region tyOk tyPos [] rfl ?_
  all_goals simp only [push_cast, ↓brB_true, ↓brB_false, ↓reduceIte, reduceMod, reduceMul, reduceDiv, reduceAdd, reduceSub, reduceEqDiff, Nat.reduceBEq, reduceLT, reduceLeDiff, reduceCtorEq]
  all_goals repeat' (first | (apply brB_mk <;> (intro hg; (try simp only [push_cast] at hg))) | apply And.intro | (intro hg; (try simp only [push_cast] at hg)))
  all_goals first | exact True.intro | exact rfl | contradiction | omega | with_reducible assumption | (rw [← hs1]; omega) | skip
  all_goals first | (refine hK _ ?_; clear hK K) | (simp only [push_cast]; done)
  refine awp_block ?_
  refine awp_loopU [4,5,6,12,13,14,15,16,17,18,19,20,21,22,23,24,25,26] [] (fun (k : Nat) => [(12, .int .i64 k), (6, .int .i64 (sg g.a.owner.length k))]) (fun k => []) (fun k => []) (fun k => k ≤ (gi g.prio v).toNat ∧ pw g.a.owner.length k ≤ 1000) (fun k => (gi g.prio v).toNat - k) 0 ?_ ⟨by omega, by simp [pw]⟩ ?_
  ·
    rw [show sg (g.a.owner.length : Int) 0 = 1 from rfl]
    refine cov_of rfl ?_ ?_ ?_ <;> simp only [covS, covL, push_cast, ↓brB_true, ↓brB_false, ↓reduceIte, reduceMod, reduceMul, reduceDiv, reduceAdd, reduceSub, reduceEqDiff, Nat.reduceBEq, reduceLT, reduceLeDiff, reduceCtorEq]
  · rintro k ⟨hk, hk2⟩ KL0 hL0
    have ha0 := sg_abs hn1 k
    have hp0 := pw_pos hn1 k
    have ha1 := sg_abs hn1 (k + 1)
    have hp1 := pw_le hnn hk2
    have hs1 := sg_s (g.a.owner.length : Int) k
    simp only [push_cast, ↓brB_true, ↓brB_false, ↓reduceIte, reduceMod, reduceMul, reduceDiv, reduceAdd, reduceSub, reduceEqDiff, Nat.reduceBEq, reduceLT, reduceLeDiff, reduceCtorEq]
    refine awp_seq' fun K hK => ?_
    refine awp_region tyOk tyPos [] rfl ?_
    all_goals simp only [push_cast, ↓brB_true, ↓brB_false, ↓reduceIte, reduceMod, reduceMul, reduceDiv, reduceAdd, reduceSub, reduceEqDiff, Nat.reduceBEq, reduceLT, reduceLeDiff, reduceCtorEq]
    all_goals repeat' (first | (apply brB_mk <;> (intro hg; (try simp only [push_cast] at hg))) | apply And.intro | (intro hg; (try simp only [push_cast] at hg)))
    all_goals first | exact True.intro | exact rfl | contradiction | omega | with_reducible assumption | (rw [← hs1]; omega) | skip
    all_goals first | (refine hK _ ?_; clear hK K) | (simp only [push_cast]; done)
    refine awp_seq' fun K2 hK2 => ?_
    refine awp_cond rfl (fun hc => ?_) (fun hc => ?_) <;> (try simp only [push_cast] at hc)
    ·
      refine awp_skip ?_
      (try simp only [AThen, ABlk, reduceIte, reduceEqDiff]); refine hK2 _ ?_
      refine awp_seq' fun K3 hK3 => ?_
      refine awp_block ?_
      refine awp_seq' fun K hK => ?_
      refine awp_region tyOk tyPos [] rfl ?_
      all_goals refine aops_cut 4 fun K9 hK9 => ?_
      all_goals simp only [push_cast, ↓brB_true, ↓brB_false, ↓reduceIte, reduceMod, reduceMul, reduceDiv, reduceAdd, reduceSub, reduceEqDiff, Nat.reduceBEq, reduceLT, reduceLeDiff, reduceCtorEq]
      all_goals repeat' (first | (apply brB_mk <;> (intro hg; (try simp only [push_cast] at hg))) | (refine ⟨_, hS, ?_⟩; simp only [push_cast, ↓brB_true, ↓brB_false, ↓reduceIte, reduceMod, reduceMul, reduceDiv, reduceAdd, reduceSub, reduceEqDiff, Nat.reduceBEq, reduceLT, reduceLeDiff, reduceCtorEq]) | apply And.intro | (intro hg; (try simp only [push_cast] at hg)))
      all_goals first | exact True.intro | exact rfl | contradiction | omega | with_reducible assumption | (rw [← hs1]; omega) | skip
      all_goals first | (refine hK9 _ ?_; clear hK9 K9) | (simp only [push_cast]; done)
      all_goals simp only [push_cast, ↓brB_true, ↓brB_false, ↓reduceIte, reduceMod, reduceMul, reduceDiv, reduceAdd, reduceSub, reduceEqDiff, Nat.reduceBEq, reduceLT, reduceLeDiff, reduceCtorEq]
      all_goals repeat' (first | (apply brB_mk <;> (intro hg; (try simp only [push_cast] at hg))) | (refine ⟨_, hS, ?_⟩; simp only [push_cast, ↓brB_true, ↓brB_false, ↓reduceIte, reduceMod, reduceMul, reduceDiv, reduceAdd, reduceSub, reduceEqDiff, Nat.reduceBEq, reduceLT, reduceLeDiff, reduceCtorEq]) | apply And.intro | (intro hg; (try simp only [push_cast] at hg)))
      all_goals first | exact True.intro | exact rfl | contradiction | omega | with_reducible assumption | (rw [← hs1]; omega) | skip
      all_goals first | (refine hK _ ?_; clear hK K) | (simp only [push_cast]; done)
      refine awp_seq' fun K hK => ?_
      refine awp_regionN false tyOk tyPos ?_ rfl ?_
      · kernel_rfl
      all_goals simp only [push_cast, ↓brB_true, ↓brB_false, ↓reduceIte, reduceMod, reduceMul, reduceDiv, reduceAdd, reduceSub, reduceEqDiff, Nat.reduceBEq, reduceLT, reduceLeDiff, reduceCtorEq]
      all_goals repeat' (first | (apply brB_mk <;> (intro hg; (try simp only [push_cast] at hg))) | apply And.intro | (intro hg; (try simp only [push_cast] at hg)))
      all_goals first | exact True.intro | exact rfl | contradiction | omega | with_reducible assumption | (rw [← hs1]; omega) | skip
      all_goals first | (refine hK _ ?_; clear hK K) | (simp only [push_cast]; done)
      all_goals refine awp_cond rfl (fun hc => ?_) (fun hc => ?_)
      all_goals (first | (cases hc; done) | skip)
      all_goals (try simp only [push_cast] at hc)
      all_goals try (
          refine awp_seq' fun K hK => ?_
          refine awp_region tyOk tyPos [] rfl ?_
          all_goals simp only [push_cast, ↓brB_true, ↓brB_false, ↓reduceIte, reduceMod, reduceMul, reduceDiv, reduceAdd, reduceSub, reduceEqDiff, Nat.reduceBEq, reduceLT, reduceLeDiff, reduceCtorEq]
          all_goals repeat' (first | (apply brB_mk <;> (intro hg; (try simp only [push_cast] at hg))) | apply And.intro | (intro hg; (try simp only [push_cast] at hg)))
          all_goals first | exact True.intro | exact rfl | contradiction | omega | with_reducible assumption | (rw [← hs1]; omega) | skip
          all_goals first | (refine hK _ ?_; clear hK K) | (simp only [push_cast]; done)
          refine awp_ret ?_
          (try simp only [AThen, ABlk])
          refine ⟨Or.inl rfl, ?_⟩
          simp only [RetOk, push_cast, ↓brB_true, ↓brB_false, ↓reduceIte, reduceMod, reduceMul, reduceDiv, reduceAdd, reduceSub, reduceEqDiff, Nat.reduceBEq, reduceLT, reduceLeDiff, reduceCtorEq]
          have h9 := scoreB_no hn1 (k := k + 1) (p := (gi g.prio v).toNat) (by omega) (by omega)
          rw [h9.1, h9.2]
          all_goals first | rfl | exact ⟨rfl, rfl⟩
          done)
      refine awp_skip ?_
      (try simp only [AThen, ABlk, reduceIte, reduceEqDiff]); refine hK3 _ ?_
      refine awp_region tyOk tyPos [] rfl ?_
      all_goals simp only [push_cast, ↓brB_true, ↓brB_false, ↓reduceIte, reduceMod, reduceMul, reduceDiv, reduceAdd, reduceSub, reduceEqDiff, Nat.reduceBEq, reduceLT, reduceLeDiff, reduceCtorEq]
      all_goals repeat' (first | (apply brB_mk <;> (intro hg; (try simp only [push_cast] at hg))) | apply And.intro | (intro hg; (try simp only [push_cast] at hg)))
      all_goals first | exact True.intro | exact rfl | contradiction | omega | with_reducible assumption | (rw [← hs1]; omega) | skip
      refine hL0 _ ⟨k + 1, ⟨by omega, by omega⟩, by omega, ?_⟩
      rw [hs1]
      refine cov_of rfl ?_ ?_ ?_ <;> simp only [covS, covL, push_cast, ↓brB_true, ↓brB_false, ↓reduceIte, reduceMod, reduceMul, reduceDiv, reduceAdd, reduceSub, reduceEqDiff, Nat.reduceBEq, reduceLT, reduceLeDiff, reduceCtorEq]
    ·
      refine awp_exit ?_
      (try simp only [AThen, ABlk, reduceIte, reduceEqDiff]); refine hK1 _ ?_
      refine awp_seq' fun K hK => ?_
      refine awp_region tyOk tyPos [] rfl ?_
      all_goals simp only [push_cast, ↓brB_true, ↓brB_false, ↓reduceIte, reduceMod, reduceMul, reduceDiv, reduceAdd, reduceSub, reduceEqDiff, Nat.reduceBEq, reduceLT, reduceLeDiff, reduceCtorEq]
      all_goals repeat' (first | (apply brB_mk <;> (intro hg; (try simp only [push_cast] at hg))) | apply And.intro | (intro hg; (try simp only [push_cast] at hg)))
      all_goals first | exact True.intro | exact rfl | contradiction | omega | with_reducible assumption | (rw [← hs1]; omega) | skip
      all_goals first | (refine hK _ ?_; clear hK K) | (simp only [push_cast]; done)
      refine awp_ret ?_
      (try simp only [AThen, ABlk])
      refine ⟨Or.inl rfl, ?_⟩
      simp only [RetOk, push_cast, ↓brB_true, ↓brB_false, ↓reduceIte, reduceMod, reduceMul, reduceDiv, reduceAdd, reduceSub, reduceEqDiff, Nat.reduceBEq, reduceLT, reduceLeDiff, reduceCtorEq]
      have hkk : k = (gi g.prio v).toNat := by omega
      have h9 := scoreB_yes (n := (g.a.owner.length : Int)) (p := k) hk2
      rw [← hkk, h9.1, h9.2]
      all_goals first | rfl | exact ⟨rfl, rfl⟩
set_option maxRecDepth 20000 in
set_option maxHeartbeats 4000000 in
theorem l22Score_fn (n : Int) (hnn : 1 ≤ n ∧ n ≤ 256) (p : Int) (hp : 0 ≤ p ∧ p ≤ 40) : Fn Try.prog tyT 101 [.c (.int .i64 n), .c (.int .i64 p)] [.c (.int .i64 (scoreV n p.toNat)), .c (.bool (scoreB n p.toNat))] := by
  have hn1 := hnn.1
  have hm2 := tmod2 hp.1
  refine Fn_of (fn := Try.f101) (ts := [4, 5]) Try.func101 (by kernel_rfl) rfl rfl (by rw [Try.ntmps101]; exact Nat.le_of_ble_eq_true rfl) rfl (by simp only [szA, List.mem_cons, List.not_mem_nil, or_false, forall_eq_or_imp, forall_eq, VT.cells, szL]; try decide) ?_
  rw [Try.ntmps101]
  simp only [push_cast, ↓brB_true, ↓brB_false, ↓reduceIte, reduceMod, reduceMul, reduceDiv, reduceAdd, reduceSub, reduceEqDiff, Nat.reduceBEq, reduceLT, reduceLeDiff, reduceCtorEq]
  refine awp_seq' fun K hK => ?_
  refine awp_region tyOk tyPos [] rfl ?_
  all_goals simp only [push_cast, ↓brB_true, ↓brB_false, ↓reduceIte, reduceMod, reduceMul, reduceDiv, reduceAdd, reduceSub, reduceEqDiff, Nat.reduceBEq, reduceLT, reduceLeDiff, reduceCtorEq]
  all_goals repeat' (first | (apply brB_mk <;> (intro hg; (try simp only [push_cast] at hg))) | apply And.intro | (intro hg; (try simp only [push_cast] at hg)))
  all_goals first | exact True.intro | exact rfl | contradiction | omega | with_reducible assumption | (rw [← hs1]; omega) | skip
  all_goals first | (refine hK _ ?_; clear hK K) | (simp only [push_cast]; done)
  refine awp_seq' fun K hK => ?_
  refine awp_region tyOk tyPos [] rfl ?_
  all_goals simp only [push_cast, ↓brB_true, ↓brB_false, ↓reduceIte, reduceMod, reduceMul, reduceDiv, reduceAdd, reduceSub, reduceEqDiff, Nat.reduceBEq, reduceLT, reduceLeDiff, reduceCtorEq]
  all_goals repeat' (first | (apply brB_mk <;> (intro hg; (try simp only [push_cast] at hg))) | apply And.intro | (intro hg; (try simp only [push_cast] at hg)))
  all_goals first | exact True.intro | exact rfl | contradiction | omega | with_reducible assumption | (rw [← hs1]; omega) | skip
  all_goals first | (refine hK _ ?_; clear hK K) | (simp only [push_cast]; done)
  refine awp_seq' fun K1 hK1 => ?_
  refine awp_seq' fun K hK => ?_
  refine awp_region tyOk tyPos [] rfl ?_
  all_goals simp only [push_cast, ↓brB_true, ↓brB_false, ↓reduceIte, reduceMod, reduceMul, reduceDiv, reduceAdd, reduceSub, reduceEqDiff, Nat.reduceBEq, reduceLT, reduceLeDiff, reduceCtorEq]
  all_goals repeat' (first | (apply brB_mk <;> (intro hg; (try simp only [push_cast] at hg))) | apply And.intro | (intro hg; (try simp only [push_cast] at hg)))
  all_goals first | exact True.intro | exact rfl | contradiction | omega | with_reducible assumption | (rw [← hs1]; omega) | skip
  all_goals first | (refine hK _ ?_; clear hK K) | (simp only [push_cast]; done)
  refine awp_block ?_
  refine awp_loopU [4,5,6,7,8,9,10,11,12,13,14,15,16,17] [] (fun (k : Nat) => [(7, .int .i64 k), (6, .int .i64 (pw n k))]) (fun k => []) (fun k => []) (fun k => k ≤ p.toNat ∧ pw n k ≤ 1000) (fun k => p.toNat - k) 0 ?_ ⟨by omega, by simp [pw]⟩ ?_
  ·
    rw [show pw n 0 = 1 from rfl]
    refine cov_of rfl ?_ ?_ ?_ <;> simp only [covS, covL, push_cast, ↓brB_true, ↓brB_false, ↓reduceIte, reduceMod, reduceMul, reduceDiv, reduceAdd, reduceSub, reduceEqDiff, Nat.reduceBEq, reduceLT, reduceLeDiff, reduceCtorEq]
  · rintro k ⟨hk, hk2⟩ KL0 hL0
    have hp0 := pw_pos hn1 k
    have hp1 := pw_le hnn hk2
    have hs1 : pw n (k + 1) = pw n k * n := rfl
    simp only [push_cast, ↓brB_true, ↓brB_false, ↓reduceIte, reduceMod, reduceMul, reduceDiv, reduceAdd, reduceSub, reduceEqDiff, Nat.reduceBEq, reduceLT, reduceLeDiff, reduceCtorEq]
    refine awp_seq' fun K2 hK2 => ?_
    refine awp_seq' fun K hK => ?_
    refine awp_region tyOk tyPos [] rfl ?_
    all_goals simp only [push_cast, ↓brB_true, ↓brB_false, ↓reduceIte, reduceMod, reduceMul, reduceDiv, reduceAdd, reduceSub, reduceEqDiff, Nat.reduceBEq, reduceLT, reduceLeDiff, reduceCtorEq]
    all_goals repeat' (first | (apply brB_mk <;> (intro hg; (try simp only [push_cast] at hg))) | apply And.intro | (intro hg; (try simp only [push_cast] at hg)))
    all_goals first | exact True.intro | exact rfl | contradiction | omega | with_reducible assumption | (rw [← hs1]; omega) | skip
    all_goals first | (refine hK _ ?_; clear hK K) | (simp only [push_cast]; done)
    refine awp_cond rfl (fun hc => ?_) (fun hc => ?_) <;> (try simp only [push_cast] at hc)
    ·
      refine awp_skip ?_
      (try simp only [AThen, ABlk, reduceIte, reduceEqDiff]); refine hK2 _ ?_
      refine awp_seq' fun K3 hK3 => ?_
      refine awp_block ?_
      refine awp_seq' fun K hK => ?_
      refine awp_region tyOk tyPos [] rfl ?_
      all_goals simp only [push_cast, ↓brB_true, ↓brB_false, ↓reduceIte, reduceMod, reduceMul, reduceDiv, reduceAdd, reduceSub, reduceEqDiff, Nat.reduceBEq, reduceLT, reduceLeDiff, reduceCtorEq]
      all_goals repeat' (first | (apply brB_mk <;> (intro hg; (try simp only [push_cast] at hg))) | apply And.intro | (intro hg; (try simp only [push_cast] at hg)))
      all_goals first | exact True.intro | exact rfl | contradiction | omega | with_reducible assumption | (rw [← hs1]; omega) | skip
      all_goals first | (refine hK _ ?_; clear hK K) | (simp only [push_cast]; done)
      refine awp_seq' fun K hK => ?_
      refine awp_region tyOk tyPos [] rfl ?_
      all_goals simp only [push_cast, ↓brB_true, ↓brB_false, ↓reduceIte, reduceMod, reduceMul, reduceDiv, reduceAdd, reduceSub, reduceEqDiff, Nat.reduceBEq, reduceLT, reduceLeDiff, reduceCtorEq]
      all_goals repeat' (first | (apply brB_mk <;> (intro hg; (try simp only [push_cast] at hg))) | apply And.intro | (intro hg; (try simp only [push_cast] at hg)))
      all_goals first | exact True.intro | exact rfl | contradiction | omega | with_reducible assumption | (rw [← hs1]; omega) | skip
      all_goals first | (refine hK _ ?_; clear hK K) | (simp only [push_cast]; done)
      refine awp_cond rfl (fun hc => ?_) (fun hc => ?_) <;> (try simp only [push_cast] at hc)
      ·
        refine awp_seq' fun K hK => ?_
        refine awp_region tyOk tyPos [] rfl ?_
        all_goals simp only [push_cast, ↓brB_true, ↓brB_false, ↓reduceIte, reduceMod, reduceMul, reduceDiv, reduceAdd, reduceSub, reduceEqDiff, Nat.reduceBEq, reduceLT, reduceLeDiff, reduceCtorEq]
        all_goals repeat' (first | (apply brB_mk <;> (intro hg; (try simp only [push_cast] at hg))) | apply And.intro | (intro hg; (try simp only [push_cast] at hg)))
        all_goals first | exact True.intro | exact rfl | contradiction | omega | with_reducible assumption | (rw [← hs1]; omega) | skip
        all_goals first | (refine hK _ ?_; clear hK K) | (simp only [push_cast]; done)
        refine awp_ret ?_
        (try simp only [AThen, ABlk])
        refine ⟨Or.inl rfl, ?_⟩
        simp only [RetOk, push_cast, ↓brB_true, ↓brB_false, ↓reduceIte, reduceMod, reduceMul, reduceDiv, reduceAdd, reduceSub, reduceEqDiff, Nat.reduceBEq, reduceLT, reduceLeDiff, reduceCtorEq]
        have h9 := scoreB_no hn1 (k := k + 1) (p := p.toNat) (by omega) (by omega)
        rw [h9.1, h9.2]
        all_goals first | rfl | exact ⟨rfl, rfl⟩
      ·
        refine awp_skip ?_
        (try simp only [AThen, ABlk, reduceIte, reduceEqDiff]); refine hK3 _ ?_
        refine awp_region tyOk tyPos [] rfl ?_
        all_goals simp only [push_cast, ↓brB_true, ↓brB_false, ↓reduceIte, reduceMod, reduceMul, reduceDiv, reduceAdd, reduceSub, reduceEqDiff, Nat.reduceBEq, reduceLT, reduceLeDiff, reduceCtorEq]
        all_goals repeat' (first | (apply brB_mk <;> (intro hg; (try simp only [push_cast] at hg))) | apply And.intro | (intro hg; (try simp only [push_cast] at hg)))
        all_goals first | exact True.intro | exact rfl | contradiction | omega | with_reducible assumption | (rw [← hs1]; omega) | skip
        refine hL0 _ ⟨k + 1, ⟨by omega, by omega⟩, by omega, ?_⟩
        rw [hs1]
        refine cov_of rfl ?_ ?_ ?_ <;> simp only [covS, covL, push_cast, ↓brB_true, ↓brB_false, ↓reduceIte, reduceMod, reduceMul, reduceDiv, reduceAdd, reduceSub, reduceEqDiff, Nat.reduceBEq, reduceLT, reduceLeDiff, reduceCtorEq]
    ·
      refine awp_exit ?_
      (try simp only [AThen, ABlk, reduceIte, reduceEqDiff]); refine hK1 _ ?_
      refine awp_seq' fun K4 hK4 => ?_
      have hkk : k = p.toNat := by omega
      have h9 := scoreB_yes (n := n) (p := p.toNat) (by rw [← hkk]; exact hk2)
      have hsg : sg n p.toNat = if p.toNat % 2 = 1 then -pw n p.toNat else pw n p.toNat := rfl
      refine awp_seq' fun K hK => ?_
      refine awp_region tyOk tyPos [] rfl ?_
      all_goals simp only [push_cast, ↓brB_true, ↓brB_false, ↓reduceIte, reduceMod, reduceMul, reduceDiv, reduceAdd, reduceSub, reduceEqDiff, Nat.reduceBEq, reduceLT, reduceLeDiff, reduceCtorEq]
      all_goals repeat' (first | (apply brB_mk <;> (intro hg; (try simp only [push_cast] at hg))) | apply And.intro | (intro hg; (try simp only [push_cast] at hg)))
      all_goals first | exact True.intro | exact rfl | contradiction | omega | with_reducible assumption | (rw [← hs1]; omega) | skip
      all_goals first | (refine hK _ ?_; clear hK K) | (simp only [push_cast]; done)
      refine awp_cond rfl (fun hc => ?_) (fun hc => ?_) <;> (try simp only [push_cast] at hc)
      ·
        refine awp_region tyOk tyPos [] rfl ?_
        all_goals simp only [push_cast, ↓brB_true, ↓brB_false, ↓reduceIte, reduceMod, reduceMul, reduceDiv, reduceAdd, reduceSub, reduceEqDiff, Nat.reduceBEq, reduceLT, reduceLeDiff, reduceCtorEq]
        all_goals repeat' (first | (apply brB_mk <;> (intro hg; (try simp only [push_cast] at hg))) | apply And.intro | (intro hg; (try simp only [push_cast] at hg)))
        all_goals first | exact True.intro | exact rfl | contradiction | omega | with_reducible assumption | (rw [← hs1]; omega) | skip
        (try simp only [AThen, ABlk, reduceIte, reduceEqDiff]); refine hK4 _ ?_
        refine awp_seq' fun K hK => ?_
        refine awp_region tyOk tyPos [] rfl ?_
        all_goals simp only [push_cast, ↓brB_true, ↓brB_false, ↓reduceIte, reduceMod, reduceMul, reduceDiv, reduceAdd, reduceSub, reduceEqDiff, Nat.reduceBEq, reduceLT, reduceLeDiff, reduceCtorEq]
        all_goals repeat' (first | (apply brB_mk <;> (intro hg; (try simp only [push_cast] at hg))) | apply And.intro | (intro hg; (try simp only [push_cast] at hg)))
        all_goals first | exact True.intro | exact rfl | contradiction | omega | with_reducible assumption | (rw [← hs1]; omega) | skip
        all_goals first | (refine hK _ ?_; clear hK K) | (simp only [push_cast]; done)
        refine awp_ret ?_
        (try simp only [AThen, ABlk])
        refine ⟨Or.inl rfl, ?_⟩
        simp only [RetOk, push_cast, ↓brB_true, ↓brB_false, ↓reduceIte, reduceMod, reduceMul, reduceDiv, reduceAdd, reduceSub, reduceEqDiff, Nat.reduceBEq, reduceLT, reduceLeDiff, reduceCtorEq]
        rw [h9.1, h9.2, hkk]
        all_goals first | rfl | (refine ⟨?_, rfl⟩; omega) | omega
      ·
        refine awp_skip ?_
        (try simp only [AThen, ABlk, reduceIte, reduceEqDiff]); refine hK4 _ ?_
        refine awp_seq' fun K hK => ?_
        refine awp_region tyOk tyPos [] rfl ?_
        all_goals simp only [push_cast, ↓brB_true, ↓brB_false, ↓reduceIte, reduceMod, reduceMul, reduceDiv, reduceAdd, reduceSub, reduceEqDiff, Nat.reduceBEq, reduceLT, reduceLeDiff, reduceCtorEq]
        all_goals repeat' (first | (apply brB_mk <;> (intro hg; (try simp only [push_cast] at hg))) | apply And.intro | (intro hg; (try simp only [push_cast] at hg)))
        all_goals first | exact True.intro | exact rfl | contradiction | omega | with_reducible assumption | (rw [← hs1]; omega) | skip
        all_goals first | (refine hK _ ?_; clear hK K) | (simp only [push_cast]; done)
        refine awp_ret ?_
        (try simp only [AThen, ABlk])
        refine ⟨Or.inl rfl, ?_⟩
        simp only [RetOk, push_cast, ↓brB_true, ↓brB_false, ↓reduceIte, reduceMod, reduceMul, reduceDiv, reduceAdd, reduceSub, reduceEqDiff, Nat.reduceBEq, reduceLT, reduceLeDiff, reduceCtorEq]
        rw [h9.1, h9.2, hkk]
        all_goals first | rfl | (refine ⟨?_, rfl⟩; omega) | omega
end Go.Proofs.Ytfipgnbpkbnalaa

/- lists changed one by one: plain -/
namespace Go.Proofs.Ytfipgnbpkbnalaa
open Nat (reduceMod reduceMul reduceDiv reduceAdd reduceSub reduceEqDiff reduceLT reduceLeDiff)
open Go.RowKit
set_option linter.unusedVariables false
set_option linter.unusedSimpArgs false

end Go.Proofs.Ytfipgnbpkbnalaa

/- copies of rows, of arenas and of weighted arenas; arenas with the owners exchanged: both sides -/
namespace Go.Proofs.Ytfipgnbpkbnalaa
open Nat (reduceMod reduceMul reduceDiv reduceAdd reduceSub reduceEqDiff reduceLT reduceLeDiff)
open Go.RowKit
set_option linter.unusedVariables false
set_option linter.unusedSimpArgs false

set_option maxRecDepth 20000 in
set_option maxHeartbeats 4000000 in
theorem copyLists_fn (xs : List (List Int)) (hx : LnII 1048576 xs) : Fn Try.prog tyT 90 [.c (DII xs)] [.c (DII xs)] := by
  have h1 := hx.1
  have hr : ∀ v, (gl xs v).length ≤ 1048576 := fun v => gl_le hx v
  refine Fn_of (fn := Try.f90) (ts := [2]) Try.func90 (by kernel_rfl) rfl rfl (by rw [Try.ntmps90]; exact Nat.le_of_ble_eq_true rfl) rfl (by simp only [szA, List.mem_cons, List.not_mem_nil, or_false, forall_eq_or_imp, forall_eq, VT.cells, szL]; try decide) ?_
  rw [Try.ntmps90]
  simp only [push_cast, ↓brB_true, ↓brB_false, ↓reduceIte, reduceMod, reduceMul, reduceDiv, reduceAdd, reduceSub, reduceEqDiff, Nat.reduceBEq, reduceLT, reduceLeDiff, reduceCtorEq]
  refine awp_seq' fun K hK => ?_
  refine awp_region tyOk tyPos [] rfl ?_
  all_goals simp only [push_cast, ↓brB_true, ↓brB_false, ↓reduceIte, reduceMod, reduceMul, reduceDiv, reduceAdd, reduceSub, reduceEqDiff, Nat.reduceBEq, reduceLT, reduceLeDiff, reduceCtorEq]
  all_goals repeat' (first | (apply brB_mk <;> (intro hg; (try simp only [push_cast] at hg))) | apply And.intro | (intro hg; (try simp only [push_cast] at hg)))
  all_goals first | exact True.intro | exact rfl | contradiction | omega | with_reducible assumption | (exact getE_dII (by omega)) | skip
  all_goals first | (refine hK _ ?_; clear hK K) | (simp only [push_cast]; done)
  refine awp_seq' fun K hK => ?_
  refine awp_regionN false tyOk tyPos ?_ rfl ?_
  · kernel_rfl
  simp only [push_cast, ↓brB_true, ↓brB_false, ↓reduceIte, reduceMod, reduceMul, reduceDiv, reduceAdd, reduceSub, reduceEqDiff, Nat.reduceBEq, reduceLT, reduceLeDiff, reduceCtorEq]
  all_goals repeat' (first | (apply brB_mk <;> (intro hg; (try simp only [push_cast] at hg))) | apply And.intro | (intro hg; (try simp only [push_cast] at hg)))
  all_goals first | exact True.intro | exact rfl | contradiction | omega | with_reducible assumption | (exact getE_dII (by omega)) | skip
  all_goals first | (refine hK _ ?_; clear hK K) | (simp only [push_cast]; done)
  refine awp_settle 22 3 (Nat.le_of_ble_eq_true rfl) ?_
  simp only [push_cast, ↓brB_true, ↓brB_false, ↓reduceIte, reduceMod, reduceMul, reduceDiv, reduceAdd, reduceSub, reduceEqDiff, Nat.reduceBEq, reduceLT, reduceLeDiff, reduceCtorEq]
  refine awp_seq' fun K1 hK1 => ?_
  refine awp_seq' fun K hK => ?_
  refine awp_region tyOk tyPos [] rfl ?_
  all_goals simp only [push_cast, ↓brB_true, ↓brB_false, ↓reduceIte, reduceMod, reduceMul, reduceDiv, reduceAdd, reduceSub, reduceEqDiff, Nat.reduceBEq, reduceLT, reduceLeDiff, reduceCtorEq]
  all_goals repeat' (first | (apply brB_mk <;> (intro hg; (try simp only [push_cast] at hg))) | apply And.intro | (intro hg; (try simp only [push_cast] at hg)))
  all_goals first | exact True.intro | exact rfl | contradiction | omega | with_reducible assumption | (exact getE_dII (by omega)) | skip
  all_goals first | (refine hK _ ?_; clear hK K) | (simp only [push_cast]; done)
  refine awp_block ?_
  rw [show ([] : List D) = dII (xs.take 0) from by simp [dII]]
  refine awp_loopU [3,5,9,10,11,12,13,14,15,16,17,18,19] [48] (fun (k : Nat) => [(9, .int .i64 k), (3, .sl 48 [] 0 k 22)]) (fun k => []) (fun k => [(48, ⟨.ex, 22, dII (xs.take k), none⟩)]) (fun k => k ≤ xs.length) (fun k => xs.length - k) 0 ?_ (by omega) ?_
  ·
    refine cov_of rfl ?_ ?_ ?_ <;> simp only [covS, covL, push_cast, ↓brB_true, ↓brB_false, ↓reduceIte, reduceMod, reduceMul, reduceDiv, reduceAdd, reduceSub, reduceEqDiff, Nat.reduceBEq, reduceLT, reduceLeDiff, reduceCtorEq]
  · rintro k hk KL0 hL0
    have htk : (xs.take k).length = k := by rw [List.length_take]; omega
    have hrk := hr k
    simp only [push_cast, ↓brB_true, ↓brB_false, ↓reduceIte, reduceMod, reduceMul, reduceDiv, reduceAdd, reduceSub, reduceEqDiff, Nat.reduceBEq, reduceLT, reduceLeDiff, reduceCtorEq]
    refine awp_seq' fun K hK => ?_
    refine awp_region tyOk tyPos [] rfl ?_
    all_goals simp only [push_cast, ↓brB_true, ↓brB_false, ↓reduceIte, reduceMod, reduceMul, reduceDiv, reduceAdd, reduceSub, reduceEqDiff, Nat.reduceBEq, reduceLT, reduceLeDiff, reduceCtorEq]
    all_goals repeat' (first | (apply brB_mk <;> (intro hg; (try simp only [push_cast] at hg))) | apply And.intro | (intro hg; (try simp only [push_cast] at hg)))
    all_goals first | exact True.intro | exact rfl | contradiction | omega | with_reducible assumption | (exact getE_dII (by omega)) | skip
    all_goals first | (refine hK _ ?_; clear hK K) | (simp only [push_cast]; done)
    refine awp_seq' fun K2 hK2 => ?_
    refine awp_cond rfl (fun hc => ?_) (fun hc => ?_) <;> (try simp only [push_cast] at hc)
    ·
      refine awp_skip ?_
      (try simp only [AThen, ABlk, reduceIte, reduceEqDiff]); refine hK2 _ ?_
      refine awp_seq' fun K3 hK3 => ?_
      refine awp_block ?_
      refine awp_seq' fun K hK => ?_
      refine awp_region tyOk tyPos [] rfl ?_
      all_goals simp only [push_cast, ↓brB_true, ↓brB_false, ↓reduceIte, reduceMod, reduceMul, reduceDiv, reduceAdd, reduceSub, reduceEqDiff, Nat.reduceBEq, reduceLT, reduceLeDiff, reduceCtorEq]
      all_goals repeat' (first | (apply brB_mk <;> (intro hg; (try simp only [push_cast] at hg))) | apply And.intro | (intro hg; (try simp only [push_cast] at hg)))
      all_goals first | exact True.intro | exact rfl | contradiction | omega | with_reducible assumption | (exact getE_dII (by omega)) | skip
      all_goals first | (refine hK _ ?_; clear hK K) | (simp only [push_cast]; done)
      refine awp_regionN false tyOk tyPos ?_ rfl ?_
      · kernel_rfl
      simp only [push_cast, ↓brB_true, ↓brB_false, ↓reduceIte, reduceMod, reduceMul, reduceDiv, reduceAdd, reduceSub, reduceEqDiff, Nat.reduceBEq, reduceLT, reduceLeDiff, reduceCtorEq]
      all_goals repeat' (first | (apply brB_mk <;> (intro hg; (try simp only [push_cast] at hg))) | apply And.intro | (intro hg; (try simp only [push_cast] at hg)))
      all_goals first | exact True.intro | exact rfl | contradiction | omega | with_reducible assumption | (exact getE_dII (by omega)) | skip
      (try simp only [AThen, ABlk, reduceIte, reduceEqDiff]); refine hK3 _ ?_
      refine awp_settle 22 3 (Nat.le_of_ble_eq_true rfl) ?_
      simp only [push_cast, ↓brB_true, ↓brB_false, ↓reduceIte, reduceMod, reduceMul, reduceDiv, reduceAdd, reduceSub, reduceEqDiff, Nat.reduceBEq, reduceLT, reduceLeDiff, reduceCtorEq]
      refine awp_region tyOk tyPos [] rfl ?_
      all_goals simp only [push_cast, ↓brB_true, ↓brB_false, ↓reduceIte, reduceMod, reduceMul, reduceDiv, reduceAdd, reduceSub, reduceEqDiff, Nat.reduceBEq, reduceLT, reduceLeDiff, reduceCtorEq]
      all_goals repeat' (first | (apply brB_mk <;> (intro hg; (try simp only [push_cast] at hg))) | apply And.intro | (intro hg; (try simp only [push_cast] at hg)))
      all_goals first | exact True.intro | exact rfl | contradiction | omega | with_reducible assumption | (exact getE_dII (by omega)) | skip
      refine hL0 _ ⟨k + 1, by omega, by omega, ?_⟩
      (try rw [List.take_take, Nat.min_self])
      rw [take_snocL (by omega)]
      refine cov_of rfl ?_ ?_ ?_ <;> simp only [covS, covL, push_cast, ↓brB_true, ↓brB_false, ↓reduceIte, reduceMod, reduceMul, reduceDiv, reduceAdd, reduceSub, reduceEqDiff, Nat.reduceBEq, reduceLT, reduceLeDiff, reduceCtorEq]
    ·
      refine awp_exit ?_
      have hkk : k = xs.length := by omega
      subst hkk
      rw [List.take_length]
      (try simp only [AThen, ABlk, reduceIte, reduceEqDiff]); refine hK1 _ ?_
      refine awp_seq' fun K hK => ?_
      refine awp_region tyOk tyPos [] rfl ?_
      all_goals simp only [push_cast, ↓brB_true, ↓brB_false, ↓reduceIte, reduceMod, reduceMul, reduceDiv, reduceAdd, reduceSub, reduceEqDiff, Nat.reduceBEq, reduceLT, reduceLeDiff, reduceCtorEq]
      all_goals repeat' (first | (apply brB_mk <;> (intro hg; (try simp only [push_cast] at hg))) | apply And.intro | (intro hg; (try simp only [push_cast] at hg)))
      all_goals first | exact True.intro | exact rfl | contradiction | omega | with_reducible assumption | (exact getE_dII (by omega)) | skip
      all_goals first | (refine hK _ ?_; clear hK K) | (simp only [push_cast]; done)
      refine awp_ret ?_
      (try simp only [AThen, ABlk])
      refine ⟨Or.inl rfl, ?_⟩
      simp only [RetOk, push_cast, ↓brB_true, ↓brB_false, ↓reduceIte, reduceMod, reduceMul, reduceDiv, reduceAdd, reduceSub, reduceEqDiff, Nat.reduceBEq, reduceLT, reduceLeDiff, reduceCtorEq]
set_option maxRecDepth 20000 in
set_option maxHeartbeats 4000000 in
theorem copyArena_fn (a : Ar) (ha : a.Ln 1048576) : Fn Try.prog tyT 97 [.agg (dAr a)] [.agg (dAr a)] := by
  have h0 := ha.owner
  have h1 := ha.next.1
  have hC := copyLists_fn a.next ha.next
  unfold LnI at h0
  unfold dAr
  refine Fn_ofR (fn := Try.f97) (rs := [.cell 2 31]) tyOk tyPos Try.func97 (by kernel_rfl) rfl rfl (by rw [Try.ntmps97]; exact Nat.le_of_ble_eq_true rfl) rfl (by simp only [szA, List.mem_cons, List.not_mem_nil, or_false, forall_eq_or_imp, forall_eq, VT.cells, szL]; try decide) ?_
  rw [Try.ntmps97]
  simp only [push_cast, ↓brB_true, ↓brB_false, ↓reduceIte, reduceMod, reduceMul, reduceDiv, reduceAdd, reduceSub, reduceEqDiff, Nat.reduceBEq, reduceLT, reduceLeDiff, reduceCtorEq]
  refine awp_seq' fun K hK => ?_
  refine awp_region tyOk tyPos [] rfl ?_
  simp only [push_cast, ↓brB_true, ↓brB_false, ↓reduceIte, reduceMod, reduceMul, reduceDiv, reduceAdd, reduceSub, reduceEqDiff, Nat.reduceBEq, reduceLT, reduceLeDiff, reduceCtorEq]
  repeat' apply And.intro
  all_goals first | exact True.intro | exact rfl | omega | with_reducible assumption | (simp only [List.length_set, List.length_append, List.length_replicate, List.length_cons, List.length_nil]; omega) | skip
  all_goals first | (refine hK _ ?_; clear hK K) | (simp only [push_cast]; done)
  refine awp_seq' fun K hK => ?_
  refine awp_regionD1 false tyOk tyPos tyMix ?_ rfl ?_
  · kernel_rfl
  intro E hE
  all_goals refine lexF_cut 7 (by decide) fun K9 hK9 => ?_
  all_goals simp only [push_cast, ↓brB_true, ↓brB_false, ↓reduceIte, reduceMod, reduceMul, reduceDiv, reduceAdd, reduceSub, reduceEqDiff, Nat.reduceBEq, reduceLT, reduceLeDiff, reduceCtorEq]
  all_goals repeat' (first | (apply brB_mk <;> (intro hg; (try simp only [push_cast] at hg))) | (refine ⟨_, hC, ?_⟩; simp only [push_cast, ↓brB_true, ↓brB_false, ↓reduceIte, reduceMod, reduceMul, reduceDiv, reduceAdd, reduceSub, reduceEqDiff, Nat.reduceBEq, reduceLT, reduceLeDiff, reduceCtorEq]) | apply And.intro | (intro hg; (try simp only [push_cast] at hg)))
  all_goals first | exact True.intro | exact rfl | contradiction | omega | with_reducible assumption | skip
  all_goals first | (refine hK9 _ _ ?_; clear hK9 K9) | (simp only [push_cast]; done)
  all_goals simp only [push_cast, ↓brB_true, ↓brB_false, ↓reduceIte, reduceMod, reduceMul, reduceDiv, reduceAdd, reduceSub, reduceEqDiff, Nat.reduceBEq, reduceLT, reduceLeDiff, reduceCtorEq]
  all_goals repeat' (first | (apply brB_mk <;> (intro hg; (try simp only [push_cast] at hg))) | (refine ⟨_, hC, ?_⟩; simp only [push_cast, ↓brB_true, ↓brB_false, ↓reduceIte, reduceMod, reduceMul, reduceDiv, reduceAdd, reduceSub, reduceEqDiff, Nat.reduceBEq, reduceLT, reduceLeDiff, reduceCtorEq]) | apply And.intro | (intro hg; (try simp only [push_cast] at hg)))
  all_goals first | exact True.intro | exact rfl | contradiction | omega | with_reducible assumption | (refine hE _ _ ?_ ?_; kernel_rfl) | skip
  all_goals clear hE E
  all_goals first | (refine hK _ ?_; clear hK K) | (simp only [push_cast]; done)
  refine awp_ret ?_
  (try simp only [AThen, ABlk])
  refine ⟨Or.inl rfl, ?_⟩
  simp only [RetOk, resVars, resVar, push_cast, ↓brB_true, ↓brB_false, ↓reduceIte, reduceMod, reduceMul, reduceDiv, reduceAdd, reduceSub, reduceEqDiff, Nat.reduceBEq, reduceLT, reduceLeDiff, reduceCtorEq]
set_option maxRecDepth 20000 in
set_option maxHeartbeats 4000000 in
theorem l1CopyArena_fn (a : Ar) (ha : a.Ln 1048576) : Fn Try.prog tyT 100 [.agg (dAr a)] [.agg (dAr a)] := by
  have h0 := ha.owner
  have hC0 := l1Copy_fn a.owner h0
  obtain ⟨ow, xs⟩ := a
  have hx : LnII 1048576 xs := ha.next
  have h1 := hx.1
  have hr : ∀ v, (gl xs v).length ≤ 1048576 := fun v => gl_le hx v
  have hC := fun k => l1Copy_fn (gl xs k) (hr k)
  unfold LnI at h0
  dsimp only at h0 hC0
  unfold dAr
  refine Fn_ofR (fn := Try.f100) (rs := [.cell 2 31]) tyOk tyPos Try.func100 (by kernel_rfl) rfl rfl (by rw [Try.ntmps100]; exact Nat.le_of_ble_eq_true rfl) rfl (by simp only [szA, List.mem_cons, List.not_mem_nil, or_false, forall_eq_or_imp, forall_eq, VT.cells, szL]; try decide) ?_
  rw [Try.ntmps100]
  simp only [push_cast, ↓brB_true, ↓brB_false, ↓reduceIte, reduceMod, reduceMul, reduceDiv, reduceAdd, reduceSub, reduceEqDiff, Nat.reduceBEq, reduceLT, reduceLeDiff, reduceCtorEq]
  refine awp_seq' fun K hK => ?_
  refine awp_region tyOk tyPos [] rfl ?_
  all_goals simp only [push_cast, ↓brB_true, ↓brB_false, ↓reduceIte, reduceMod, reduceMul, reduceDiv, reduceAdd, reduceSub, reduceEqDiff, Nat.reduceBEq, reduceLT, reduceLeDiff, reduceCtorEq]
  all_goals repeat' (first | (apply brB_mk <;> (intro hg; (try simp only [push_cast] at hg))) | apply And.intro | (intro hg; (try simp only [push_cast] at hg)))
  all_goals first | exact True.intro | exact rfl | contradiction | omega | with_reducible assumption | (exact getE_dII (by omega)) | skip
  all_goals first | (refine hK _ ?_; clear hK K) | (simp only [push_cast]; done)
  refine awp_seq' fun K hK => ?_
  refine awp_region tyOk tyPos [] rfl ?_
  all_goals refine aops_cut 3 fun K9 hK9 => ?_
  all_goals simp only [push_cast, ↓brB_true, ↓brB_false, ↓reduceIte, reduceMod, reduceMul, reduceDiv, reduceAdd, reduceSub, reduceEqDiff, Nat.reduceBEq, reduceLT, reduceLeDiff, reduceCtorEq]
  all_goals repeat' (first | (apply brB_mk <;> (intro hg; (try simp only [push_cast] at hg))) | (refine ⟨_, hC0, ?_⟩; simp only [push_cast, ↓brB_true, ↓brB_false, ↓reduceIte, reduceMod, reduceMul, reduceDiv, reduceAdd, reduceSub, reduceEqDiff, Nat.reduceBEq, reduceLT, reduceLeDiff, reduceCtorEq]) | apply And.intro | (intro hg; (try simp only [push_cast] at hg)))
  all_goals first | exact True.intro | exact rfl | contradiction | omega | with_reducible assumption | (exact getE_dII (by omega)) | skip
  all_goals first | (refine hK9 _ ?_; clear hK9 K9) | (simp only [push_cast]; done)
  all_goals simp only [push_cast, ↓brB_true, ↓brB_false, ↓reduceIte, reduceMod, reduceMul, reduceDiv, reduceAdd, reduceSub, reduceEqDiff, Nat.reduceBEq, reduceLT, reduceLeDiff, reduceCtorEq]
  all_goals repeat' (first | (apply brB_mk <;> (intro hg; (try simp only [push_cast] at hg))) | (refine ⟨_, hC0, ?_⟩; simp only [push_cast, ↓brB_true, ↓brB_false, ↓reduceIte, reduceMod, reduceMul, reduceDiv, reduceAdd, reduceSub, reduceEqDiff, Nat.reduceBEq, reduceLT, reduceLeDiff, reduceCtorEq]) | apply And.intro | (intro hg; (try simp only [push_cast] at hg)))
  all_goals first | exact True.intro | exact rfl | contradiction | omega | with_reducible assumption | (exact getE_dII (by omega)) | skip
  all_goals first | (refine hK _ ?_; clear hK K) | (simp only [push_cast]; done)
  refine awp_seq' fun K1 hK1 => ?_
  refine awp_seq' fun K hK => ?_
  refine awp_region tyOk tyPos [] rfl ?_
  all_goals simp only [push_cast, ↓brB_true, ↓brB_false, ↓reduceIte, reduceMod, reduceMul, reduceDiv, reduceAdd, reduceSub, reduceEqDiff, Nat.reduceBEq, reduceLT, reduceLeDiff, reduceCtorEq]
  all_goals repeat' (first | (apply brB_mk <;> (intro hg; (try simp only [push_cast] at hg))) | apply And.intro | (intro hg; (try simp only [push_cast] at hg)))
  all_goals first | exact True.intro | exact rfl | contradiction | omega | with_reducible assumption | (exact getE_dII (by omega)) | skip
  all_goals first | (refine hK _ ?_; clear hK K) | (simp only [push_cast]; done)
  refine awp_block ?_
  refine awp_loopU [3,4,9,10,11,12,13,14,15,16,17,18,19,20,21,22,23,24,25,26] [49] (fun (k : Nat) => [(4, .int .i64 k), (3, .bp 3 0)]) (fun k => [(3, [.sl 48 [] 0 ow.length 2, .sl 49 [] 0 k 22])]) (fun k => [(48, ⟨.ex, 2, dI ow, none⟩), (49, ⟨.ex, 22, dII (xs.take k), none⟩)]) (fun k => k ≤ xs.length) (fun k => xs.length - k) 0 ?_ (by omega) ?_
  ·
    rw [show dII (xs.take 0) = [] from by simp [dII]]
    refine cov_of rfl ?_ ?_ ?_ <;> simp only [covS, covL, push_cast, ↓brB_true, ↓brB_false, ↓reduceIte, reduceMod, reduceMul, reduceDiv, reduceAdd, reduceSub, reduceEqDiff, Nat.reduceBEq, reduceLT, reduceLeDiff, reduceCtorEq]
  · rintro k hk KL0 hL0
    have htk : (xs.take k).length = k := by rw [List.length_take]; omega
    have hrk := hr k
    simp only [push_cast, ↓brB_true, ↓brB_false, ↓reduceIte, reduceMod, reduceMul, reduceDiv, reduceAdd, reduceSub, reduceEqDiff, Nat.reduceBEq, reduceLT, reduceLeDiff, reduceCtorEq]
    refine awp_seq' fun K2 hK2 => ?_
    refine awp_seq' fun K hK => ?_
    refine awp_region tyOk tyPos [] rfl ?_
    all_goals simp only [push_cast, ↓brB_true, ↓brB_false, ↓reduceIte, reduceMod, reduceMul, reduceDiv, reduceAdd, reduceSub, reduceEqDiff, Nat.reduceBEq, reduceLT, reduceLeDiff, reduceCtorEq]
    all_goals repeat' (first | (apply brB_mk <;> (intro hg; (try simp only [push_cast] at hg))) | apply And.intro | (intro hg; (try simp only [push_cast] at hg)))
    all_goals first | exact True.intro | exact rfl | contradiction | omega | with_reducible assumption | (exact getE_dII (by omega)) | skip
    all_goals first | (refine hK _ ?_; clear hK K) | (simp only [push_cast]; done)
    refine awp_cond rfl (fun hc => ?_) (fun hc => ?_) <;> (try simp only [push_cast] at hc)
    ·
      refine awp_skip ?_
      (try simp only [AThen, ABlk, reduceIte, reduceEqDiff]); refine hK2 _ ?_
      refine awp_seq' fun K3 hK3 => ?_
      refine awp_block ?_
      refine awp_regionD1 false tyOk tyPos tyMix ?_ rfl ?_
      · kernel_rfl
      intro E hE
      all_goals refine lexF_cut 8 (by decide) fun K9 hK9 => ?_
      all_goals simp only [push_cast, ↓brB_true, ↓brB_false, ↓reduceIte, reduceMod, reduceMul, reduceDiv, reduceAdd, reduceSub, reduceEqDiff, Nat.reduceBEq, reduceLT, reduceLeDiff, reduceCtorEq]
      all_goals repeat' (first | (apply brB_mk <;> (intro hg; (try simp only [push_cast] at hg))) | (refine ⟨_, hC k, ?_⟩; simp only [push_cast, ↓brB_true, ↓brB_false, ↓reduceIte, reduceMod, reduceMul, reduceDiv, reduceAdd, reduceSub, reduceEqDiff, Nat.reduceBEq, reduceLT, reduceLeDiff, reduceCtorEq]) | apply And.intro | (intro hg; (try simp only [push_cast] at hg)))
      all_goals first | exact True.intro | exact rfl | contradiction | omega | with_reducible assumption | (exact getE_dII (by omega)) | skip
      all_goals first | (refine hK9 _ _ ?_; clear hK9 K9) | (simp only [push_cast]; done)
      all_goals simp only [push_cast, ↓brB_true, ↓brB_false, ↓reduceIte, reduceMod, reduceMul, reduceDiv, reduceAdd, reduceSub, reduceEqDiff, Nat.reduceBEq, reduceLT, reduceLeDiff, reduceCtorEq]
      all_goals repeat' (first | (apply brB_mk <;> (intro hg; (try simp only [push_cast] at hg))) | (refine ⟨_, hC k, ?_⟩; simp only [push_cast, ↓brB_true, ↓brB_false, ↓reduceIte, reduceMod, reduceMul, reduceDiv, reduceAdd, reduceSub, reduceEqDiff, Nat.reduceBEq, reduceLT, reduceLeDiff, reduceCtorEq]) | apply And.intro | (intro hg; (try simp only [push_cast] at hg)))
      all_goals first | exact True.intro | exact rfl | contradiction | omega | with_reducible assumption | (refine hE _ _ ?_ ?_; kernel_rfl) | (exact getE_dII (by omega)) | skip
      all_goals clear hE E
      (try simp only [AThen, ABlk, reduceIte, reduceEqDiff]); refine hK3 _ ?_
      refine awp_settleB [.sl 2, .sl 22] 3 ?_
      simp only [push_cast, ↓brB_true, ↓brB_false, ↓reduceIte, reduceMod, reduceMul, reduceDiv, reduceAdd, reduceSub, reduceEqDiff, Nat.reduceBEq, reduceLT, reduceLeDiff, reduceCtorEq]
      refine awp_region tyOk tyPos [] rfl ?_
      all_goals simp only [push_cast, ↓brB_true, ↓brB_false, ↓reduceIte, reduceMod, reduceMul, reduceDiv, reduceAdd, reduceSub, reduceEqDiff, Nat.reduceBEq, reduceLT, reduceLeDiff, reduceCtorEq]
      all_goals repeat' (first | (apply brB_mk <;> (intro hg; (try simp only [push_cast] at hg))) | apply And.intro | (intro hg; (try simp only [push_cast] at hg)))
      all_goals first | exact True.intro | exact rfl | contradiction | omega | with_reducible assumption | (exact getE_dII (by omega)) | skip
      refine hL0 _ ⟨k + 1, by omega, by omega, ?_⟩
      (try rw [List.take_take, Nat.min_self])
      rw [take_snocL (by omega)]
      refine cov_of rfl ?_ ?_ ?_ <;> simp only [covS, covL, push_cast, ↓brB_true, ↓brB_false, ↓reduceIte, reduceMod, reduceMul, reduceDiv, reduceAdd, reduceSub, reduceEqDiff, Nat.reduceBEq, reduceLT, reduceLeDiff, reduceCtorEq]
    ·
      refine awp_exit ?_
      have hkk : k = xs.length := by omega
      subst hkk
      rw [List.take_length]
      (try simp only [AThen, ABlk, reduceIte, reduceEqDiff]); refine hK1 _ ?_
      refine awp_seq' fun K hK => ?_
      refine awp_region tyOk tyPos [] rfl ?_
      all_goals simp only [push_cast, ↓brB_true, ↓brB_false, ↓reduceIte, reduceMod, reduceMul, reduceDiv, reduceAdd, reduceSub, reduceEqDiff, Nat.reduceBEq, reduceLT, reduceLeDiff, reduceCtorEq]
      all_goals repeat' (first | (apply brB_mk <;> (intro hg; (try simp only [push_cast] at hg))) | apply And.intro | (intro hg; (try simp only [push_cast] at hg)))
      all_goals first | exact True.intro | exact rfl | contradiction | omega | with_reducible assumption | (exact getE_dII (by omega)) | skip
      all_goals first | (refine hK _ ?_; clear hK K) | (simp only [push_cast]; done)
      refine awp_ret ?_
      (try simp only [AThen, ABlk])
      refine ⟨Or.inl rfl, ?_⟩
      simp only [RetOk, resVars, resVar, push_cast, ↓brB_true, ↓brB_false, ↓reduceIte, reduceMod, reduceMul, reduceDiv, reduceAdd, reduceSub, reduceEqDiff, Nat.reduceBEq, reduceLT, reduceLeDiff, reduceCtorEq]
end Go.Proofs.Ytfipgnbpkbnalaa

/- a parity game as a weighted arena: both sides -/
namespace Go.Proofs.Ytfipgnbpkbnalaa
open Nat (reduceMod reduceMul reduceDiv reduceAdd reduceSub reduceEqDiff reduceLT reduceLeDiff)
open Go.RowKit
set_option linter.unusedVariables false
set_option linter.unusedSimpArgs false

def rowV (g : Pa) (j : Nat) : List Int := List.replicate (gl g.a.next j).length (scoreV g.a.owner.length (gi g.prio j).toNat)
def bridgeR (g : Pa) (v : Nat) : List (List Int) := (List.range v).map (rowV g)
theorem bridgeR_len (g : Pa) (v : Nat) : (bridgeR g v).length = v := by simp [bridgeR]
theorem bridgeR_s (g : Pa) (v : Nat) : bridgeR g (v + 1) = bridgeR g v ++ [rowV g v] := by simp [bridgeR, List.range_succ]
theorem bridgeR_gl {g : Pa} {n v : Nat} (h : v < n) : gl (bridgeR g n) v = rowV g v := by
  unfold gl bridgeR
  rw [List.getD_eq_getElem?_getD, List.getElem?_map, List.getElem?_range h]
  rfl
def bridgeB (g : Pa) : Bool := parityB g && decide (g.prio.length ≤ 24) && allB g.a.owner.length (fun j => scoreB g.a.owner.length (gi g.prio j).toNat)
def bridgeW (g : Pa) : Wt := if bridgeB g then ⟨g.a, bridgeR g g.a.owner.length⟩ else ⟨⟨[], []⟩, []⟩
theorem bridge_no1 {g : Pa} (h : parityB g = false) : bridgeB g = false := by unfold bridgeB; rw [h]; rfl
theorem bridge_no2 {g : Pa} (h : ¬ g.prio.length ≤ 24) : bridgeB g = false := by unfold bridgeB; rw [decide_eq_false h, Bool.and_false]; rfl
theorem bridge_no3 {g : Pa} {v : Nat} (hv : v < g.a.owner.length) (h : scoreB g.a.owner.length (gi g.prio v).toNat = false) : bridgeB g = false := by unfold bridgeB; rw [allB_false hv h, Bool.and_false]
theorem bridge_yes {g : Pa} (h1 : parityB g = true) (h2 : g.prio.length ≤ 24) (h3 : ∀ j, j < g.a.owner.length → scoreB g.a.owner.length (gi g.prio j).toNat = true) : bridgeB g = true := by unfold bridgeB; rw [h1, decide_eq_true h2, allB_true h3]; rfl
theorem bridgeW_no {g : Pa} (h : bridgeB g = false) : bridgeW g = ⟨⟨[], []⟩, []⟩ := by unfold bridgeW; rw [h]; rfl
theorem bridgeW_yes {g : Pa} (h : bridgeB g = true) : bridgeW g = ⟨g.a, bridgeR g g.a.owner.length⟩ := by unfold bridgeW; rw [h]; rfl
theorem LnII_mem {B : Nat} {xs : List (List Int)} (h : ∀ v, v < xs.length → (gl xs v).length ≤ B) (hl : xs.length ≤ B) : LnII B xs := by
  refine ⟨hl, fun r hr => ?_⟩
  obtain ⟨k, hk, rfl⟩ := List.getElem_of_mem hr
  have := h k hk
  unfold gl at this
  rw [List.getD_eq_getElem?_getD, List.getElem?_eq_getElem hk] at this
  exact this
theorem bridgeW_len {g : Pa} (h : g.Ln 1048576) : (bridgeW g).Ln 1048576 := by
  have hno := h.a.owner
  unfold LnI at hno
  unfold bridgeW
  split
  · refine ⟨h.a, LnII_mem (fun v hv => ?_) ?_⟩
    · have hv : v < g.a.owner.length := by have hv : v < (bridgeR g g.a.owner.length).length := hv; rwa [bridgeR_len] at hv
      show (gl (bridgeR g g.a.owner.length) v).length ≤ _
      rw [bridgeR_gl hv, rowV, List.length_replicate]
      exact gl_le h.a.next v
    · show (bridgeR g g.a.owner.length).length ≤ _
      rw [bridgeR_len]; exact hno
  · exact ⟨⟨by unfold LnI; simp, ⟨by simp, by simp⟩⟩, ⟨by simp, by simp⟩⟩
set_option maxRecDepth 20000 in
set_option maxHeartbeats 4000000 in
theorem BridgeOfI_fn (g : Pa) (hg : g.Ln 1048576) : Fn Try.prog tyT 71 [.agg (dPa g)] [.agg (dWt (bridgeW g)), .c (.bool (bridgeB g))] := by
  have hpl := hg.prio
  have hno := hg.a.owner
  unfold LnI at hpl hno
  have hr : ∀ v, (gl g.a.next v).length ≤ 1048576 := fun v => gl_le hg.a.next v
  have hnn := hg.a.next.1
  have hP := ParityOkI_fn g hg
  have hC := copyArena_fn g.a hg.a
  have hSc := fun hok v hv => scoreOf_fn g hg hok v hv
  unfold dAr at hC
  unfold dPa at hP hSc ⊢
  unfold dWt
  refine Fn_ofR (fn := Try.f71) (rs := [.cell 2 33, .tmp 3]) tyOk tyPos Try.func71 (by kernel_rfl) rfl rfl (by rw [Try.ntmps71]; exact Nat.le_of_ble_eq_true rfl) rfl (by simp only [szA, List.mem_cons, List.not_mem_nil, or_false, forall_eq_or_imp, forall_eq, VT.cells, szL]; try decide) ?_
  rw [Try.ntmps71]
  simp only [push_cast, ↓brB_true, ↓brB_false, ↓reduceIte, reduceMod, reduceMul, reduceDiv, reduceAdd, reduceSub, reduceEqDiff, Nat.reduceBEq, reduceLT, reduceLeDiff, reduceCtorEq]
  refine awp_seq' fun K hK => ?_
  refine awp_region tyOk tyPos [] rfl ?_
  all_goals simp only [push_cast, ↓brB_true, ↓brB_false, ↓reduceIte, reduceMod, reduceMul, reduceDiv, reduceAdd, reduceSub, reduceEqDiff, Nat.reduceBEq, reduceLT, reduceLeDiff, reduceCtorEq]
  all_goals repeat' (first | (apply brB_mk <;> (intro hg; (try simp only [push_cast] at hg))) | apply And.intro | (intro hg; (try simp only [push_cast] at hg)))
  all_goals first | exact True.intro | exact rfl | contradiction | omega | with_reducible assumption | (exact getE_dII (by omega)) | skip
  all_goals first | (refine hK _ ?_; clear hK K) | (simp only [push_cast]; done)
  refine awp_seq' fun K1 hK1 => ?_
  refine awp_seq' fun K hK => ?_
  refine awp_regionN false tyOk tyPos ?_ rfl ?_
  · kernel_rfl
  all_goals refine seqE_cut 2 fun K9 hK9 => ?_
  all_goals simp only [push_cast, ↓brB_true, ↓brB_false, ↓reduceIte, reduceMod, reduceMul, reduceDiv, reduceAdd, reduceSub, reduceEqDiff, Nat.reduceBEq, reduceLT, reduceLeDiff, reduceCtorEq]
  all_goals repeat' (first | (apply brB_mk <;> (intro hg; (try simp only [push_cast] at hg))) | (refine ⟨_, hP, ?_⟩; simp only [push_cast, ↓brB_true, ↓brB_false, ↓reduceIte, reduceMod, reduceMul, reduceDiv, reduceAdd, reduceSub, reduceEqDiff, Nat.reduceBEq, reduceLT, reduceLeDiff, reduceCtorEq]) | apply And.intro | (intro hg; (try simp only [push_cast] at hg)))
  all_goals first | exact True.intro | exact rfl | contradiction | omega | with_reducible assumption | (exact getE_dII (by omega)) | skip
  all_goals first | (refine hK9 _ ?_; clear hK9 K9) | (simp only [push_cast]; done)
  all_goals simp only [push_cast, ↓brB_true, ↓brB_false, ↓reduceIte, reduceMod, reduceMul, reduceDiv, reduceAdd, reduceSub, reduceEqDiff, Nat.reduceBEq, reduceLT, reduceLeDiff, reduceCtorEq]
  all_goals repeat' (first | (apply brB_mk <;> (intro hg; (try simp only [push_cast] at hg))) | (refine ⟨_, hP, ?_⟩; simp only [push_cast, ↓brB_true, ↓brB_false, ↓reduceIte, reduceMod, reduceMul, reduceDiv, reduceAdd, reduceSub, reduceEqDiff, Nat.reduceBEq, reduceLT, reduceLeDiff, reduceCtorEq]) | apply And.intro | (intro hg; (try simp only [push_cast] at hg)))
  all_goals first | exact True.intro | exact rfl | contradiction | omega | with_reducible assumption | (exact getE_dII (by omega)) | skip
  all_goals first | (refine hK _ ?_; clear hK K) | (simp only [push_cast]; done)
  all_goals refine awp_cond rfl (fun hc => ?_) (fun hc => ?_)
  all_goals (first | (cases hc; done) | skip)
  all_goals (try simp only [push_cast] at hc)
  all_goals try (
      refine awp_seq' fun K hK => ?_
      refine awp_region tyOk tyPos [] rfl ?_
      all_goals simp only [push_cast, ↓brB_true, ↓brB_false, ↓reduceIte, reduceMod, reduceMul, reduceDiv, reduceAdd, reduceSub, reduceEqDiff, Nat.reduceBEq, reduceLT, reduceLeDiff, reduceCtorEq]
      all_goals repeat' (first | (apply brB_mk <;> (intro hg; (try simp only [push_cast] at hg))) | apply And.intro | (intro hg; (try simp only [push_cast] at hg)))
      all_goals first | exact True.intro | exact rfl | contradiction | omega | with_reducible assumption | (exact getE_dII (by omega)) | skip
      all_goals first | (refine hK _ ?_; clear hK K) | (simp only [push_cast]; done)
      refine awp_ret ?_
      (try simp only [AThen, ABlk])
      refine ⟨Or.inl rfl, ?_⟩
      simp only [RetOk, resVars, resVar, push_cast, ↓brB_true, ↓brB_false, ↓reduceIte, reduceMod, reduceMul, reduceDiv, reduceAdd, reduceSub, reduceEqDiff, Nat.reduceBEq, reduceLT, reduceLeDiff, reduceCtorEq]
      have h9 : bridgeB g = false := by first | exact bridge_no1 (by with_reducible assumption) | exact bridge_no2 (by omega)
      rw [bridgeW_no h9, h9]
      all_goals first | rfl | (simp [dI, dII]; done)
      done)
  refine awp_skip ?_
  (try simp only [AThen, ABlk, reduceIte, reduceEqDiff]); refine hK1 _ ?_
  have hok : parityB g = true := by with_reducible assumption
  have hp24 : g.prio.length ≤ 24 := by omega
  obtain ⟨h1, h2, h3, h4, h5, h6⟩ := parity_facts hok
  refine awp_seq' fun K hK => ?_
  refine awp_region tyOk tyPos [] rfl ?_
  all_goals refine aops_cut 3 fun K9 hK9 => ?_
  all_goals simp only [push_cast, ↓brB_true, ↓brB_false, ↓reduceIte, reduceMod, reduceMul, reduceDiv, reduceAdd, reduceSub, reduceEqDiff, Nat.reduceBEq, reduceLT, reduceLeDiff, reduceCtorEq]
  all_goals repeat' (first | (apply brB_mk <;> (intro hg; (try simp only [push_cast] at hg))) | (refine ⟨_, hC, ?_⟩; simp only [push_cast, ↓brB_true, ↓brB_false, ↓reduceIte, reduceMod, reduceMul, reduceDiv, reduceAdd, reduceSub, reduceEqDiff, Nat.reduceBEq, reduceLT, reduceLeDiff, reduceCtorEq]) | apply And.intro | (intro hg; (try simp only [push_cast] at hg)))
  all_goals first | exact True.intro | exact rfl | contradiction | omega | with_reducible assumption | (exact getE_dII (by omega)) | skip
  all_goals first | (refine hK9 _ ?_; clear hK9 K9) | (simp only [push_cast]; done)
  all_goals simp only [push_cast, ↓brB_true, ↓brB_false, ↓reduceIte, reduceMod, reduceMul, reduceDiv, reduceAdd, reduceSub, reduceEqDiff, Nat.reduceBEq, reduceLT, reduceLeDiff, reduceCtorEq]
  all_goals repeat' (first | (apply brB_mk <;> (intro hg; (try simp only [push_cast] at hg))) | (refine ⟨_, hC, ?_⟩; simp only [push_cast, ↓brB_true, ↓brB_false, ↓reduceIte, reduceMod, reduceMul, reduceDiv, reduceAdd, reduceSub, reduceEqDiff, Nat.reduceBEq, reduceLT, reduceLeDiff, reduceCtorEq]) | apply And.intro | (intro hg; (try simp only [push_cast] at hg)))
  all_goals first | exact True.intro | exact rfl | contradiction | omega | with_reducible assumption | (exact getE_dII (by omega)) | skip
  all_goals first | (refine hK _ ?_; clear hK K) | (simp only [push_cast]; done)
  refine awp_seq' fun K2 hK2 => ?_
  refine awp_seq' fun K hK => ?_
  refine awp_region tyOk tyPos [] rfl ?_
  all_goals simp only [push_cast, ↓brB_true, ↓brB_false, ↓reduceIte, reduceMod, reduceMul, reduceDiv, reduceAdd, reduceSub, reduceEqDiff, Nat.reduceBEq, reduceLT, reduceLeDiff, reduceCtorEq]
  all_goals repeat' (first | (apply brB_mk <;> (intro hg; (try simp only [push_cast] at hg))) | apply And.intro | (intro hg; (try simp only [push_cast] at hg)))
  all_goals first | exact True.intro | exact rfl | contradiction | omega | with_reducible assumption | (exact getE_dII (by omega)) | skip
  all_goals first | (refine hK _ ?_; clear hK K) | (simp only [push_cast]; done)
  refine awp_block ?_
  refine awp_loopU [3,4,5,6,7,8,9,13,28,29,30,31,32,33,34,35,36,37,38,39,40,41,42,43,44,45,46,47,48,49,50,51,52,53,54,55,56,57,58] [] (fun (v : Nat) => [(28, .int .i64 v), (4, .bp 4 0)]) (fun v => [(4, [.sl 64 [] 0 g.a.owner.length 2, .sl 65 [] 0 g.a.next.length 22, .sl 66 [] 0 v 22])]) (fun v => [(64, ⟨.ex, 2, dI g.a.owner, none⟩), (65, ⟨.ex, 22, dII g.a.next, none⟩), (66, ⟨.ex, 22, dII (bridgeR g v), none⟩)]) (fun v => v ≤ g.a.owner.length ∧ ∀ j, j < v → scoreB g.a.owner.length (gi g.prio j).toNat = true) (fun v => g.a.owner.length - v) 0 ?_ ⟨by omega, fun j hj => by omega⟩ ?_
  ·
    rw [show dII (bridgeR g 0) = [] from rfl]
    refine cov_of rfl ?_ ?_ ?_ <;> simp only [covS, covL, push_cast, ↓brB_true, ↓brB_false, ↓reduceIte, reduceMod, reduceMul, reduceDiv, reduceAdd, reduceSub, reduceEqDiff, Nat.reduceBEq, reduceLT, reduceLeDiff, reduceCtorEq]
  · rintro v ⟨hv, hall⟩ KL0 hL0
    have hbl := bridgeR_len g v
    have hrv := hr v
    simp only [push_cast, ↓brB_true, ↓brB_false, ↓reduceIte, reduceMod, reduceMul, reduceDiv, reduceAdd, reduceSub, reduceEqDiff, Nat.reduceBEq, reduceLT, reduceLeDiff, reduceCtorEq]
    refine awp_seq' fun K hK => ?_
    refine awp_region tyOk tyPos [] rfl ?_
    all_goals simp only [push_cast, ↓brB_true, ↓brB_false, ↓reduceIte, reduceMod, reduceMul, reduceDiv, reduceAdd, reduceSub, reduceEqDiff, Nat.reduceBEq, reduceLT, reduceLeDiff, reduceCtorEq]
    all_goals repeat' (first | (apply brB_mk <;> (intro hg; (try simp only [push_cast] at hg))) | apply And.intro | (intro hg; (try simp only [push_cast] at hg)))
    all_goals first | exact True.intro | exact rfl | contradiction | omega | with_reducible assumption | (exact getE_dII (by omega)) | skip
    all_goals first | (refine hK _ ?_; clear hK K) | (simp only [push_cast]; done)
    refine awp_seq' fun K3 hK3 => ?_
    refine awp_cond rfl (fun hc => ?_) (fun hc => ?_) <;> (try simp only [push_cast] at hc)
    ·
      refine awp_skip ?_
      (try simp only [AThen, ABlk, reduceIte, reduceEqDiff]); refine hK3 _ ?_
      refine awp_seq' fun K4 hK4 => ?_
      refine awp_block ?_
      refine awp_seq' fun K hK => ?_
      refine awp_region tyOk tyPos [] rfl ?_
      all_goals simp only [push_cast, ↓brB_true, ↓brB_false, ↓reduceIte, reduceMod, reduceMul, reduceDiv, reduceAdd, reduceSub, reduceEqDiff, Nat.reduceBEq, reduceLT, reduceLeDiff, reduceCtorEq]
      all_goals repeat' (first | (apply brB_mk <;> (intro hg; (try simp only [push_cast] at hg))) | apply And.intro | (intro hg; (try simp only [push_cast] at hg)))
      all_goals first | exact True.intro | exact rfl | contradiction | omega | with_reducible assumption | (exact getE_dII (by omega)) | skip
      all_goals first | (refine hK _ ?_; clear hK K) | (simp only [push_cast]; done)
      refine awp_seq' fun K hK => ?_
      refine awp_region tyOk tyPos [] rfl ?_
      all_goals refine aops_cut 3 fun K9 hK9 => ?_
      all_goals simp only [push_cast, ↓brB_true, ↓brB_false, ↓reduceIte, reduceMod, reduceMul, reduceDiv, reduceAdd, reduceSub, reduceEqDiff, Nat.reduceBEq, reduceLT, reduceLeDiff, reduceCtorEq]
      all_goals repeat' (first | (apply brB_mk <;> (intro hg; (try simp only [push_cast] at hg))) | (refine ⟨_, hSc hok v (by omega), ?_⟩; simp only [push_cast, ↓brB_true, ↓brB_false, ↓reduceIte, reduceMod, reduceMul, reduceDiv, reduceAdd, reduceSub, reduceEqDiff, Nat.reduceBEq, reduceLT, reduceLeDiff, reduceCtorEq]) | apply And.intro | (intro hg; (try simp only [push_cast] at hg)))
      all_goals first | exact True.intro | exact rfl | contradiction | omega | with_reducible assumption | (exact getE_dII (by omega)) | skip
      all_goals first | (refine hK9 _ ?_; clear hK9 K9) | (simp only [push_cast]; done)
      all_goals simp only [push_cast, ↓brB_true, ↓brB_false, ↓reduceIte, reduceMod, reduceMul, reduceDiv, reduceAdd, reduceSub, reduceEqDiff, Nat.reduceBEq, reduceLT, reduceLeDiff, reduceCtorEq]
      all_goals repeat' (first | (apply brB_mk <;> (intro hg; (try simp only [push_cast] at hg))) | (refine ⟨_, hSc hok v (by omega), ?_⟩; simp only [push_cast, ↓brB_true, ↓brB_false, ↓reduceIte, reduceMod, reduceMul, reduceDiv, reduceAdd, reduceSub, reduceEqDiff, Nat.reduceBEq, reduceLT, reduceLeDiff, reduceCtorEq]) | apply And.intro | (intro hg; (try simp only [push_cast] at hg)))
      all_goals first | exact True.intro | exact rfl | contradiction | omega | with_reducible assumption | (exact getE_dII (by omega)) | skip
      all_goals first | (refine hK _ ?_; clear hK K) | (simp only [push_cast]; done)
      refine awp_seq' fun K5 hK5 => ?_
      refine awp_seq' fun K hK => ?_
      refine awp_region tyOk tyPos [] rfl ?_
      all_goals simp only [push_cast, ↓brB_true, ↓brB_false, ↓reduceIte, reduceMod, reduceMul, reduceDiv, reduceAdd, reduceSub, reduceEqDiff, Nat.reduceBEq, reduceLT, reduceLeDiff, reduceCtorEq]
      all_goals repeat' (first | (apply brB_mk <;> (intro hg; (try simp only [push_cast] at hg))) | apply And.intro | (intro hg; (try simp only [push_cast] at hg)))
      all_goals first | exact True.intro | exact rfl | contradiction | omega | with_reducible assumption | (exact getE_dII (by omega)) | skip
      all_goals first | (refine hK _ ?_; clear hK K) | (simp only [push_cast]; done)
      refine awp_cond rfl (fun hc => ?_) (fun hc => ?_) <;> (try simp only [push_cast] at hc)
      ·
        refine awp_seq' fun K hK => ?_
        refine awp_region tyOk tyPos [] rfl ?_
        all_goals simp only [push_cast, ↓brB_true, ↓brB_false, ↓reduceIte, reduceMod, reduceMul, reduceDiv, reduceAdd, reduceSub, reduceEqDiff, Nat.reduceBEq, reduceLT, reduceLeDiff, reduceCtorEq]
        all_goals repeat' (first | (apply brB_mk <;> (intro hg; (try simp only [push_cast] at hg))) | apply And.intro | (intro hg; (try simp only [push_cast] at hg)))
        all_goals first | exact True.intro | exact rfl | contradiction | omega | with_reducible assumption | (exact getE_dII (by omega)) | skip
        all_goals first | (refine hK _ ?_; clear hK K) | (simp only [push_cast]; done)
        refine awp_ret ?_
        (try simp only [AThen, ABlk])
        refine ⟨Or.inl rfl, ?_⟩
        simp only [RetOk, resVars, resVar, push_cast, ↓brB_true, ↓brB_false, ↓reduceIte, reduceMod, reduceMul, reduceDiv, reduceAdd, reduceSub, reduceEqDiff, Nat.reduceBEq, reduceLT, reduceLeDiff, reduceCtorEq]
        have h9 : bridgeB g = false := bridge_no3 (v := v) (by omega) (by with_reducible assumption)
        rw [bridgeW_no h9, h9]
        all_goals first | rfl | (simp [dI, dII]; done)
      ·
        refine awp_skip ?_
        (try simp only [AThen, ABlk, reduceIte, reduceEqDiff]); refine hK5 _ ?_
        refine awp_seq' fun K hK => ?_
        refine awp_region tyOk tyPos [] rfl ?_
        all_goals simp only [push_cast, ↓brB_true, ↓brB_false, ↓reduceIte, reduceMod, reduceMul, reduceDiv, reduceAdd, reduceSub, reduceEqDiff, Nat.reduceBEq, reduceLT, reduceLeDiff, reduceCtorEq]
        all_goals repeat' (first | (apply brB_mk <;> (intro hg; (try simp only [push_cast] at hg))) | apply And.intro | (intro hg; (try simp only [push_cast] at hg)))
        all_goals first | exact True.intro | exact rfl | contradiction | omega | with_reducible assumption | (exact getE_dII (by omega)) | skip
        all_goals first | (refine hK _ ?_; clear hK K) | (simp only [push_cast]; done)
        refine awp_seq' fun K6 hK6 => ?_
        refine awp_seq' fun K hK => ?_
        refine awp_region tyOk tyPos [] rfl ?_
        all_goals simp only [push_cast, ↓brB_true, ↓brB_false, ↓reduceIte, reduceMod, reduceMul, reduceDiv, reduceAdd, reduceSub, reduceEqDiff, Nat.reduceBEq, reduceLT, reduceLeDiff, reduceCtorEq]
        all_goals repeat' (first | (apply brB_mk <;> (intro hg; (try simp only [push_cast] at hg))) | apply And.intro | (intro hg; (try simp only [push_cast] at hg)))
        all_goals first | exact True.intro | exact rfl | contradiction | omega | with_reducible assumption | (exact getE_dII (by omega)) | skip
        all_goals first | (refine hK _ ?_; clear hK K) | (simp only [push_cast]; done)
        refine awp_block ?_
        refine awp_loopU [9,13,45,46,47,48,49,50,51] [144] (fun (k : Nat) => [(45, .int .i64 k), (9, .sl 144 [] 0 k 2)]) (fun k => []) (fun k => [(144, ⟨.ex, 2, dI (List.replicate k (scoreV g.a.owner.length (gi g.prio v).toNat)), none⟩)]) (fun k => k ≤ (gl g.a.next v).length) (fun k => (gl g.a.next v).length - k) 0 ?_ (by omega) ?_
        ·
          rw [show dI (List.replicate 0 (scoreV g.a.owner.length (gi g.prio v).toNat)) = [] from rfl]
          refine cov_of rfl ?_ ?_ ?_ <;> simp only [covS, covL, push_cast, ↓brB_true, ↓brB_false, ↓reduceIte, reduceMod, reduceMul, reduceDiv, reduceAdd, reduceSub, reduceEqDiff, Nat.reduceBEq, reduceLT, reduceLeDiff, reduceCtorEq]
        · rintro k hk KL1 hL1
          have hkl : (List.replicate k (scoreV g.a.owner.length (gi g.prio v).toNat)).length = k := List.length_replicate ..
          simp only [push_cast, ↓brB_true, ↓brB_false, ↓reduceIte, reduceMod, reduceMul, reduceDiv, reduceAdd, reduceSub, reduceEqDiff, Nat.reduceBEq, reduceLT, reduceLeDiff, reduceCtorEq]
          refine awp_seq' fun K hK => ?_
          refine awp_region tyOk tyPos [] rfl ?_
          all_goals simp only [push_cast, ↓brB_true, ↓brB_false, ↓reduceIte, reduceMod, reduceMul, reduceDiv, reduceAdd, reduceSub, reduceEqDiff, Nat.reduceBEq, reduceLT, reduceLeDiff, reduceCtorEq]
          all_goals repeat' (first | (apply brB_mk <;> (intro hg; (try simp only [push_cast] at hg))) | apply And.intro | (intro hg; (try simp only [push_cast] at hg)))
          all_goals first | exact True.intro | exact rfl | contradiction | omega | with_reducible assumption | (exact getE_dII (by omega)) | skip
          all_goals first | (refine hK _ ?_; clear hK K) | (simp only [push_cast]; done)
          refine awp_seq' fun K7 hK7 => ?_
          refine awp_cond rfl (fun hc => ?_) (fun hc => ?_) <;> (try simp only [push_cast] at hc)
          ·
            refine awp_skip ?_
            (try simp only [AThen, ABlk, reduceIte, reduceEqDiff]); refine hK7 _ ?_
            refine awp_seq' fun K8 hK8 => ?_
            refine awp_block ?_
            refine awp_region tyOk tyPos [] rfl ?_
            all_goals simp only [push_cast, ↓brB_true, ↓brB_false, ↓reduceIte, reduceMod, reduceMul, reduceDiv, reduceAdd, reduceSub, reduceEqDiff, Nat.reduceBEq, reduceLT, reduceLeDiff, reduceCtorEq]
            all_goals repeat' (first | (apply brB_mk <;> (intro hg; (try simp only [push_cast] at hg))) | apply And.intro | (intro hg; (try simp only [push_cast] at hg)))
            all_goals first | exact True.intro | exact rfl | contradiction | omega | with_reducible assumption | (exact getE_dII (by omega)) | skip
            (try simp only [AThen, ABlk, reduceIte, reduceEqDiff]); refine hK8 _ ?_
            refine awp_region tyOk tyPos [] rfl ?_
            all_goals simp only [push_cast, ↓brB_true, ↓brB_false, ↓reduceIte, reduceMod, reduceMul, reduceDiv, reduceAdd, reduceSub, reduceEqDiff, Nat.reduceBEq, reduceLT, reduceLeDiff, reduceCtorEq]
            all_goals repeat' (first | (apply brB_mk <;> (intro hg; (try simp only [push_cast] at hg))) | apply And.intro | (intro hg; (try simp only [push_cast] at hg)))
            all_goals first | exact True.intro | exact rfl | contradiction | omega | with_reducible assumption | (exact getE_dII (by omega)) | skip
            refine hL1 _ ⟨k + 1, by omega, by omega, ?_⟩
            (try rw [List.take_of_length_le (l := List.replicate k (scoreV g.a.owner.length (gi g.prio v).toNat)) (by omega)])
            rw [List.replicate_succ']
            refine cov_of rfl ?_ ?_ ?_ <;> simp only [covS, covL, push_cast, ↓brB_true, ↓brB_false, ↓reduceIte, reduceMod, reduceMul, reduceDiv, reduceAdd, reduceSub, reduceEqDiff, Nat.reduceBEq, reduceLT, reduceLeDiff, reduceCtorEq]
          ·
            refine awp_exit ?_
            have hkk : k = (gl g.a.next v).length := by omega
            subst hkk
            (try simp only [AThen, ABlk, reduceIte, reduceEqDiff]); refine hK6 _ ?_
            refine awp_regionN false tyOk tyPos ?_ rfl ?_
            · kernel_rfl
            simp only [push_cast, ↓brB_true, ↓brB_false, ↓reduceIte, reduceMod, reduceMul, reduceDiv, reduceAdd, reduceSub, reduceEqDiff, Nat.reduceBEq, reduceLT, reduceLeDiff, reduceCtorEq]
            all_goals repeat' (first | (apply brB_mk <;> (intro hg; (try simp only [push_cast] at hg))) | apply And.intro | (intro hg; (try simp only [push_cast] at hg)))
            all_goals first | exact True.intro | exact rfl | contradiction | omega | with_reducible assumption | (exact getE_dII (by omega)) | skip
            (try simp only [AThen, ABlk, reduceIte, reduceEqDiff]); refine hK4 _ ?_
            refine awp_settleB [.sl 2, .sl 22, .sl 22] 4 ?_
            simp only [push_cast, ↓brB_true, ↓brB_false, ↓reduceIte, reduceMod, reduceMul, reduceDiv, reduceAdd, reduceSub, reduceEqDiff, Nat.reduceBEq, reduceLT, reduceLeDiff, reduceCtorEq]
            refine awp_region tyOk tyPos [] rfl ?_
            all_goals simp only [push_cast, ↓brB_true, ↓brB_false, ↓reduceIte, reduceMod, reduceMul, reduceDiv, reduceAdd, reduceSub, reduceEqDiff, Nat.reduceBEq, reduceLT, reduceLeDiff, reduceCtorEq]
            all_goals repeat' (first | (apply brB_mk <;> (intro hg; (try simp only [push_cast] at hg))) | apply And.intro | (intro hg; (try simp only [push_cast] at hg)))
            all_goals first | exact True.intro | exact rfl | contradiction | omega | with_reducible assumption | (exact getE_dII (by omega)) | skip
            refine hL0 _ ⟨v + 1, ⟨by omega, fun j hj => (by
                by_cases hjv : j = v
                · subst hjv; with_reducible assumption
                · exact hall j (by omega))⟩, by omega, ?_⟩
            (try rw [List.take_of_length_le (l := bridgeR g v) (by omega)])
            (try rw [List.take_of_length_le (l := List.replicate (gl g.a.next v).length (scoreV g.a.owner.length (gi g.prio v).toNat)) (by omega)])
            rw [bridgeR_s]
            unfold rowV
            refine cov_of rfl ?_ ?_ ?_ <;> simp only [covS, covL, push_cast, ↓brB_true, ↓brB_false, ↓reduceIte, reduceMod, reduceMul, reduceDiv, reduceAdd, reduceSub, reduceEqDiff, Nat.reduceBEq, reduceLT, reduceLeDiff, reduceCtorEq]
    ·
      refine awp_exit ?_
      (try simp only [AThen, ABlk, reduceIte, reduceEqDiff]); refine hK2 _ ?_
      refine awp_seq' fun K hK => ?_
      refine awp_region tyOk tyPos [] rfl ?_
      all_goals simp only [push_cast, ↓brB_true, ↓brB_false, ↓reduceIte, reduceMod, reduceMul, reduceDiv, reduceAdd, reduceSub, reduceEqDiff, Nat.reduceBEq, reduceLT, reduceLeDiff, reduceCtorEq]
      all_goals repeat' (first | (apply brB_mk <;> (intro hg; (try simp only [push_cast] at hg))) | apply And.intro | (intro hg; (try simp only [push_cast] at hg)))
      all_goals first | exact True.intro | exact rfl | contradiction | omega | with_reducible assumption | (exact getE_dII (by omega)) | skip
      all_goals first | (refine hK _ ?_; clear hK K) | (simp only [push_cast]; done)
      refine awp_ret ?_
      (try simp only [AThen, ABlk])
      refine ⟨Or.inl rfl, ?_⟩
      simp only [RetOk, resVars, resVar, push_cast, ↓brB_true, ↓brB_false, ↓reduceIte, reduceMod, reduceMul, reduceDiv, reduceAdd, reduceSub, reduceEqDiff, Nat.reduceBEq, reduceLT, reduceLeDiff, reduceCtorEq]
      have hkv : v = g.a.owner.length := by omega
      subst hkv
      have h9 := bridge_yes hok hp24 hall
      rw [bridgeW_yes h9, h9]
      all_goals first | rfl | (simp [bridgeR_len]; done)
set_option maxRecDepth 20000 in
set_option maxHeartbeats 4000000 in
theorem BridgeOfS_fn (g : Pa) (hg : g.Ln 1048576) : Fn Try.prog tyT 72 [.agg (dPa g)] [.agg (dWt (bridgeW g)), .c (.bool (bridgeB g))] := by
  have hpl := hg.prio
  have hno := hg.a.owner
  unfold LnI at hpl hno
  have hr : ∀ v, (gl g.a.next v).length ≤ 1048576 := fun v => gl_le hg.a.next v
  have hnn := hg.a.next.1
  have hP := ParityOkS_fn g hg
  have hC := l1CopyArena_fn g.a hg.a
  have hSc := fun n hn p hp => l22Score_fn n hn p hp
  unfold dAr at hC
  unfold dPa at hP ⊢
  unfold dWt
  refine Fn_ofR (fn := Try.f72) (rs := [.cell 2 33, .tmp 3]) tyOk tyPos Try.func72 (by kernel_rfl) rfl rfl (by rw [Try.ntmps72]; exact Nat.le_of_ble_eq_true rfl) rfl (by simp only [szA, List.mem_cons, List.not_mem_nil, or_false, forall_eq_or_imp, forall_eq, VT.cells, szL]; try decide) ?_
  rw [Try.ntmps72]
  simp only [push_cast, ↓brB_true, ↓brB_false, ↓reduceIte, reduceMod, reduceMul, reduceDiv, reduceAdd, reduceSub, reduceEqDiff, Nat.reduceBEq, reduceLT, reduceLeDiff, reduceCtorEq]
  refine awp_seq' fun K hK => ?_
  refine awp_region tyOk tyPos [] rfl ?_
  all_goals simp only [push_cast, ↓brB_true, ↓brB_false, ↓reduceIte, reduceMod, reduceMul, reduceDiv, reduceAdd, reduceSub, reduceEqDiff, Nat.reduceBEq, reduceLT, reduceLeDiff, reduceCtorEq]
  all_goals repeat' (first | (apply brB_mk <;> (intro hg; (try simp only [push_cast] at hg))) | apply And.intro | (intro hg; (try simp only [push_cast] at hg)))
  all_goals first | exact True.intro | exact rfl | contradiction | omega | with_reducible assumption | (exact getE_dII (by omega)) | skip
  all_goals first | (refine hK _ ?_; clear hK K) | (simp only [push_cast]; done)
  refine awp_seq' fun K1 hK1 => ?_
  refine awp_seq' fun K hK => ?_
  refine awp_regionN false tyOk tyPos ?_ rfl ?_
  · kernel_rfl
  all_goals refine seqE_cut 2 fun K9 hK9 => ?_
  all_goals simp only [push_cast, ↓brB_true, ↓brB_false, ↓reduceIte, reduceMod, reduceMul, reduceDiv, reduceAdd, reduceSub, reduceEqDiff, Nat.reduceBEq, reduceLT, reduceLeDiff, reduceCtorEq]
  all_goals repeat' (first | (apply brB_mk <;> (intro hg; (try simp only [push_cast] at hg))) | (refine ⟨_, hP, ?_⟩; simp only [push_cast, ↓brB_true, ↓brB_false, ↓reduceIte, reduceMod, reduceMul, reduceDiv, reduceAdd, reduceSub, reduceEqDiff, Nat.reduceBEq, reduceLT, reduceLeDiff, reduceCtorEq]) | apply And.intro | (intro hg; (try simp only [push_cast] at hg)))
  all_goals first | exact True.intro | exact rfl | contradiction | omega | with_reducible assumption | (exact getE_dII (by omega)) | skip
  all_goals first | (refine hK9 _ ?_; clear hK9 K9) | (simp only [push_cast]; done)
  all_goals simp only [push_cast, ↓brB_true, ↓brB_false, ↓reduceIte, reduceMod, reduceMul, reduceDiv, reduceAdd, reduceSub, reduceEqDiff, Nat.reduceBEq, reduceLT, reduceLeDiff, reduceCtorEq]
  all_goals repeat' (first | (apply brB_mk <;> (intro hg; (try simp only [push_cast] at hg))) | (refine ⟨_, hP, ?_⟩; simp only [push_cast, ↓brB_true, ↓brB_false, ↓reduceIte, reduceMod, reduceMul, reduceDiv, reduceAdd, reduceSub, reduceEqDiff, Nat.reduceBEq, reduceLT, reduceLeDiff, reduceCtorEq]) | apply And.intro | (intro hg; (try simp only [push_cast] at hg)))
  all_goals first | exact True.intro | exact rfl | contradiction | omega | with_reducible assumption | (exact getE_dII (by omega)) | skip
  all_goals first | (refine hK _ ?_; clear hK K) | (simp only [push_cast]; done)
  all_goals refine awp_cond rfl (fun hc => ?_) (fun hc => ?_)
  all_goals (first | (cases hc; done) | skip)
  all_goals (try simp only [push_cast] at hc)
  all_goals try (
      refine awp_seq' fun K hK => ?_
      refine awp_region tyOk tyPos [] rfl ?_
      all_goals simp only [push_cast, ↓brB_true, ↓brB_false, ↓reduceIte, reduceMod, reduceMul, reduceDiv, reduceAdd, reduceSub, reduceEqDiff, Nat.reduceBEq, reduceLT, reduceLeDiff, reduceCtorEq]
      all_goals repeat' (first | (apply brB_mk <;> (intro hg; (try simp only [push_cast] at hg))) | apply And.intro | (intro hg; (try simp only [push_cast] at hg)))
      all_goals first | exact True.intro | exact rfl | contradiction | omega | with_reducible assumption | (exact getE_dII (by omega)) | skip
      all_goals first | (refine hK _ ?_; clear hK K) | (simp only [push_cast]; done)
      refine awp_ret ?_
      (try simp only [AThen, ABlk])
      refine ⟨Or.inl rfl, ?_⟩
      simp only [RetOk, resVars, resVar, push_cast, ↓brB_true, ↓brB_false, ↓reduceIte, reduceMod, reduceMul, reduceDiv, reduceAdd, reduceSub, reduceEqDiff, Nat.reduceBEq, reduceLT, reduceLeDiff, reduceCtorEq]
      have h9 : bridgeB g = false := by first | exact bridge_no1 (by with_reducible assumption) | exact bridge_no2 (by omega)
      rw [bridgeW_no h9, h9]
      all_goals first | rfl | (simp [dI, dII]; done)
      done)
  refine awp_skip ?_
  (try simp only [AThen, ABlk, reduceIte, reduceEqDiff]); refine hK1 _ ?_
  have hok : parityB g = true := by with_reducible assumption
  have hp24 : g.prio.length ≤ 24 := by omega
  obtain ⟨h1, h2, h3, h4, h5, h6⟩ := parity_facts hok
  refine awp_seq' fun K hK => ?_
  refine awp_region tyOk tyPos [] rfl ?_
  all_goals refine aops_cut 3 fun K9 hK9 => ?_
  all_goals simp only [push_cast, ↓brB_true, ↓brB_false, ↓reduceIte, reduceMod, reduceMul, reduceDiv, reduceAdd, reduceSub, reduceEqDiff, Nat.reduceBEq, reduceLT, reduceLeDiff, reduceCtorEq]
  all_goals repeat' (first | (apply brB_mk <;> (intro hg; (try simp only [push_cast] at hg))) | (refine ⟨_, hC, ?_⟩; simp only [push_cast, ↓brB_true, ↓brB_false, ↓reduceIte, reduceMod, reduceMul, reduceDiv, reduceAdd, reduceSub, reduceEqDiff, Nat.reduceBEq, reduceLT, reduceLeDiff, reduceCtorEq]) | apply And.intro | (intro hg; (try simp only [push_cast] at hg)))
  all_goals first | exact True.intro | exact rfl | contradiction | omega | with_reducible assumption | (exact getE_dII (by omega)) | skip
  all_goals first | (refine hK9 _ ?_; clear hK9 K9) | (simp only [push_cast]; done)
  all_goals simp only [push_cast, ↓brB_true, ↓brB_false, ↓reduceIte, reduceMod, reduceMul, reduceDiv, reduceAdd, reduceSub, reduceEqDiff, Nat.reduceBEq, reduceLT, reduceLeDiff, reduceCtorEq]
  all_goals repeat' (first | (apply brB_mk <;> (intro hg; (try simp only [push_cast] at hg))) | (refine ⟨_, hC, ?_⟩; simp only [push_cast, ↓brB_true, ↓brB_false, ↓reduceIte, reduceMod, reduceMul, reduceDiv, reduceAdd, reduceSub, reduceEqDiff, Nat.reduceBEq, reduceLT, reduceLeDiff, reduceCtorEq]) | apply And.intro | (intro hg; (try simp only [push_cast] at hg)))
  all_goals first | exact True.intro | exact rfl | contradiction | omega | with_reducible assumption | (exact getE_dII (by omega)) | skip
  all_goals first | (refine hK _ ?_; clear hK K) | (simp only [push_cast]; done)
  refine awp_seq' fun K2 hK2 => ?_
  refine awp_seq' fun K hK => ?_
  refine awp_region tyOk tyPos [] rfl ?_
  all_goals simp only [push_cast, ↓brB_true, ↓brB_false, ↓reduceIte, reduceMod, reduceMul, reduceDiv, reduceAdd, reduceSub, reduceEqDiff, Nat.reduceBEq, reduceLT, reduceLeDiff, reduceCtorEq]
  all_goals repeat' (first | (apply brB_mk <;> (intro hg; (try simp only [push_cast] at hg))) | apply And.intro | (intro hg; (try simp only [push_cast] at hg)))
  all_goals first | exact True.intro | exact rfl | contradiction | omega | with_reducible assumption | (exact getE_dII (by omega)) | skip
  all_goals first | (refine hK _ ?_; clear hK K) | (simp only [push_cast]; done)
  refine awp_block ?_
  refine awp_loopU [3,4,5,6,7,8,9,13,24,25,26,27,28,29,30,31,32,33,34,35,36,37,38,39,40,41,42,43,44,45,46,47,48,49,50,51,52,53,54,55,56,57,58,59,60,61,62,63,64,65,66,67] [] (fun (v : Nat) => [(5, .int .i64 v), (4, .bp 4 0)]) (fun v => [(4, [.sl 64 [] 0 g.a.owner.length 2, .sl 65 [] 0 g.a.next.length 22, .sl 66 [] 0 v 22])]) (fun v => [(64, ⟨.ex, 2, dI g.a.owner, none⟩), (65, ⟨.ex, 22, dII g.a.next, none⟩), (66, ⟨.ex, 22, dII (bridgeR g v), none⟩)]) (fun v => v ≤ g.a.owner.length ∧ ∀ j, j < v → scoreB g.a.owner.length (gi g.prio j).toNat = true) (fun v => g.a.owner.length - v) 0 ?_ ⟨by omega, fun j hj => by omega⟩ ?_
  ·
    rw [show dII (bridgeR g 0) = [] from rfl]
    refine cov_of rfl ?_ ?_ ?_ <;> simp only [covS, covL, push_cast, ↓brB_true, ↓brB_false, ↓reduceIte, reduceMod, reduceMul, reduceDiv, reduceAdd, reduceSub, reduceEqDiff, Nat.reduceBEq, reduceLT, reduceLeDiff, reduceCtorEq]
  · rintro v ⟨hv, hall⟩ KL0 hL0
    have hbl := bridgeR_len g v
    have hrv := hr v
    simp only [push_cast, ↓brB_true, ↓brB_false, ↓reduceIte, reduceMod, reduceMul, reduceDiv, reduceAdd, reduceSub, reduceEqDiff, Nat.reduceBEq, reduceLT, reduceLeDiff, reduceCtorEq]
    refine awp_seq' fun K3 hK3 => ?_
    refine awp_seq' fun K hK => ?_
    refine awp_region tyOk tyPos [] rfl ?_
    all_goals simp only [push_cast, ↓brB_true, ↓brB_false, ↓reduceIte, reduceMod, reduceMul, reduceDiv, reduceAdd, reduceSub, reduceEqDiff, Nat.reduceBEq, reduceLT, reduceLeDiff, reduceCtorEq]
    all_goals repeat' (first | (apply brB_mk <;> (intro hg; (try simp only [push_cast] at hg))) | apply And.intro | (intro hg; (try simp only [push_cast] at hg)))
    all_goals first | exact True.intro | exact rfl | contradiction | omega | with_reducible assumption | (exact getE_dII (by omega)) | skip
    all_goals first | (refine hK _ ?_; clear hK K) | (simp only [push_cast]; done)
    refine awp_cond rfl (fun hc => ?_) (fun hc => ?_) <;> (try simp only [push_cast] at hc)
    ·
      refine awp_skip ?_
      (try simp only [AThen, ABlk, reduceIte, reduceEqDiff]); refine hK3 _ ?_
      refine awp_seq' fun K4 hK4 => ?_
      refine awp_block ?_
      have h8 := hSc g.prio.length (by omega) (gi g.prio v) (h6 v (by omega))
      rw [show scoreV ((g.prio.length : Nat) : Int) (gi g.prio v).toNat = scoreV (g.a.owner.length : Int) (gi g.prio v).toNat from by rw [h2], show scoreB ((g.prio.length : Nat) : Int) (gi g.prio v).toNat = scoreB (g.a.owner.length : Int) (gi g.prio v).toNat from by rw [h2]] at h8
      refine awp_seq' fun K hK => ?_
      refine awp_regionD1 false tyOk tyPos tyMix ?_ rfl ?_
      · kernel_rfl
      intro E hE
      all_goals refine lexF_cut 9 (by decide) fun K9 hK9 => ?_
      all_goals simp only [push_cast, ↓brB_true, ↓brB_false, ↓reduceIte, reduceMod, reduceMul, reduceDiv, reduceAdd, reduceSub, reduceEqDiff, Nat.reduceBEq, reduceLT, reduceLeDiff, reduceCtorEq]
      all_goals repeat' (first | (apply brB_mk <;> (intro hg; (try simp only [push_cast] at hg))) | (refine ⟨_, h8, ?_⟩; simp only [push_cast, ↓brB_true, ↓brB_false, ↓reduceIte, reduceMod, reduceMul, reduceDiv, reduceAdd, reduceSub, reduceEqDiff, Nat.reduceBEq, reduceLT, reduceLeDiff, reduceCtorEq]) | apply And.intro | (intro hg; (try simp only [push_cast] at hg)))
      all_goals first | exact True.intro | exact rfl | contradiction | omega | with_reducible assumption | (exact getE_dII (by omega)) | skip
      all_goals first | (refine hK9 _ _ ?_; clear hK9 K9) | (simp only [push_cast]; done)
      all_goals simp only [push_cast, ↓brB_true, ↓brB_false, ↓reduceIte, reduceMod, reduceMul, reduceDiv, reduceAdd, reduceSub, reduceEqDiff, Nat.reduceBEq, reduceLT, reduceLeDiff, reduceCtorEq]
      all_goals repeat' (first | (apply brB_mk <;> (intro hg; (try simp only [push_cast] at hg))) | (refine ⟨_, h8, ?_⟩; simp only [push_cast, ↓brB_true, ↓brB_false, ↓reduceIte, reduceMod, reduceMul, reduceDiv, reduceAdd, reduceSub, reduceEqDiff, Nat.reduceBEq, reduceLT, reduceLeDiff, reduceCtorEq]) | apply And.intro | (intro hg; (try simp only [push_cast] at hg)))
      all_goals first | exact True.intro | exact rfl | contradiction | omega | with_reducible assumption | (refine hE _ _ ?_ ?_; kernel_rfl) | (exact getE_dII (by omega)) | skip
      all_goals clear hE E
      all_goals first | (refine hK _ ?_; clear hK K) | (simp only [push_cast]; done)
      refine awp_seq' fun K5 hK5 => ?_
      refine awp_seq' fun K hK => ?_
      refine awp_region tyOk tyPos [] rfl ?_
      all_goals simp only [push_cast, ↓brB_true, ↓brB_false, ↓reduceIte, reduceMod, reduceMul, reduceDiv, reduceAdd, reduceSub, reduceEqDiff, Nat.reduceBEq, reduceLT, reduceLeDiff, reduceCtorEq]
      all_goals repeat' (first | (apply brB_mk <;> (intro hg; (try simp only [push_cast] at hg))) | apply And.intro | (intro hg; (try simp only [push_cast] at hg)))
      all_goals first | exact True.intro | exact rfl | contradiction | omega | with_reducible assumption | (exact getE_dII (by omega)) | skip
      all_goals first | (refine hK _ ?_; clear hK K) | (simp only [push_cast]; done)
      refine awp_cond rfl (fun hc => ?_) (fun hc => ?_) <;> (try simp only [push_cast] at hc)
      ·
        refine awp_seq' fun K hK => ?_
        refine awp_region tyOk tyPos [] rfl ?_
        all_goals simp only [push_cast, ↓brB_true, ↓brB_false, ↓reduceIte, reduceMod, reduceMul, reduceDiv, reduceAdd, reduceSub, reduceEqDiff, Nat.reduceBEq, reduceLT, reduceLeDiff, reduceCtorEq]
        all_goals repeat' (first | (apply brB_mk <;> (intro hg; (try simp only [push_cast] at hg))) | apply And.intro | (intro hg; (try simp only [push_cast] at hg)))
        all_goals first | exact True.intro | exact rfl | contradiction | omega | with_reducible assumption | (exact getE_dII (by omega)) | skip
        all_goals first | (refine hK _ ?_; clear hK K) | (simp only [push_cast]; done)
        refine awp_ret ?_
        (try simp only [AThen, ABlk])
        refine ⟨Or.inl rfl, ?_⟩
        simp only [RetOk, resVars, resVar, push_cast, ↓brB_true, ↓brB_false, ↓reduceIte, reduceMod, reduceMul, reduceDiv, reduceAdd, reduceSub, reduceEqDiff, Nat.reduceBEq, reduceLT, reduceLeDiff, reduceCtorEq]
        have h9 : bridgeB g = false := bridge_no3 (v := v) (by omega) (by with_reducible assumption)
        rw [bridgeW_no h9, h9]
        all_goals first | rfl | (simp [dI, dII]; done)
      ·
        refine awp_skip ?_
        (try simp only [AThen, ABlk, reduceIte, reduceEqDiff]); refine hK5 _ ?_
        refine awp_seq' fun K hK => ?_
        refine awp_region tyOk tyPos [] rfl ?_
        all_goals simp only [push_cast, ↓brB_true, ↓brB_false, ↓reduceIte, reduceMod, reduceMul, reduceDiv, reduceAdd, reduceSub, reduceEqDiff, Nat.reduceBEq, reduceLT, reduceLeDiff, reduceCtorEq]
        all_goals repeat' (first | (apply brB_mk <;> (intro hg; (try simp only [push_cast] at hg))) | apply And.intro | (intro hg; (try simp only [push_cast] at hg)))
        all_goals first | exact True.intro | exact rfl | contradiction | omega | with_reducible assumption | (exact getE_dII (by omega)) | skip
        all_goals first | (refine hK _ ?_; clear hK K) | (simp only [push_cast]; done)
        refine awp_seq' fun K6 hK6 => ?_
        refine awp_seq' fun K hK => ?_
        refine awp_region tyOk tyPos [] rfl ?_
        all_goals simp only [push_cast, ↓brB_true, ↓brB_false, ↓reduceIte, reduceMod, reduceMul, reduceDiv, reduceAdd, reduceSub, reduceEqDiff, Nat.reduceBEq, reduceLT, reduceLeDiff, reduceCtorEq]
        all_goals repeat' (first | (apply brB_mk <;> (intro hg; (try simp only [push_cast] at hg))) | apply And.intro | (intro hg; (try simp only [push_cast] at hg)))
        all_goals first | exact True.intro | exact rfl | contradiction | omega | with_reducible assumption | (exact getE_dII (by omega)) | skip
        all_goals first | (refine hK _ ?_; clear hK K) | (simp only [push_cast]; done)
        refine awp_block ?_
        refine awp_loopU [8,9,13,47,48,49,50,51,52,53,54,55,56,57,58,59,60,61] [128] (fun (k : Nat) => [(9, .int .i64 k), (8, .sl 128 [] 0 k 2)]) (fun k => []) (fun k => [(128, ⟨.ex, 2, dI (List.replicate k (scoreV g.a.owner.length (gi g.prio v).toNat)), none⟩)]) (fun k => k ≤ (gl g.a.next v).length) (fun k => (gl g.a.next v).length - k) 0 ?_ (by omega) ?_
        ·
          rw [show dI (List.replicate 0 (scoreV g.a.owner.length (gi g.prio v).toNat)) = [] from rfl]
          refine cov_of rfl ?_ ?_ ?_ <;> simp only [covS, covL, push_cast, ↓brB_true, ↓brB_false, ↓reduceIte, reduceMod, reduceMul, reduceDiv, reduceAdd, reduceSub, reduceEqDiff, Nat.reduceBEq, reduceLT, reduceLeDiff, reduceCtorEq]
        · rintro k hk KL1 hL1
          have hkl : (List.replicate k (scoreV g.a.owner.length (gi g.prio v).toNat)).length = k := List.length_replicate ..
          simp only [push_cast, ↓brB_true, ↓brB_false, ↓reduceIte, reduceMod, reduceMul, reduceDiv, reduceAdd, reduceSub, reduceEqDiff, Nat.reduceBEq, reduceLT, reduceLeDiff, reduceCtorEq]
          refine awp_seq' fun K7 hK7 => ?_
          refine awp_seq' fun K hK => ?_
          refine awp_region tyOk tyPos [] rfl ?_
          all_goals simp only [push_cast, ↓brB_true, ↓brB_false, ↓reduceIte, reduceMod, reduceMul, reduceDiv, reduceAdd, reduceSub, reduceEqDiff, Nat.reduceBEq, reduceLT, reduceLeDiff, reduceCtorEq]
          all_goals repeat' (first | (apply brB_mk <;> (intro hg; (try simp only [push_cast] at hg))) | apply And.intro | (intro hg; (try simp only [push_cast] at hg)))
          all_goals first | exact True.intro | exact rfl | contradiction | omega | with_reducible assumption | (exact getE_dII (by omega)) | skip
          all_goals first | (refine hK _ ?_; clear hK K) | (simp only [push_cast]; done)
          refine awp_cond rfl (fun hc => ?_) (fun hc => ?_) <;> (try simp only [push_cast] at hc)
          ·
            refine awp_skip ?_
            (try simp only [AThen, ABlk, reduceIte, reduceEqDiff]); refine hK7 _ ?_
            refine awp_seq' fun K8 hK8 => ?_
            refine awp_block ?_
            refine awp_region tyOk tyPos [] rfl ?_
            all_goals simp only [push_cast, ↓brB_true, ↓brB_false, ↓reduceIte, reduceMod, reduceMul, reduceDiv, reduceAdd, reduceSub, reduceEqDiff, Nat.reduceBEq, reduceLT, reduceLeDiff, reduceCtorEq]
            all_goals repeat' (first | (apply brB_mk <;> (intro hg; (try simp only [push_cast] at hg))) | apply And.intro | (intro hg; (try simp only [push_cast] at hg)))
            all_goals first | exact True.intro | exact rfl | contradiction | omega | with_reducible assumption | (exact getE_dII (by omega)) | skip
            (try simp only [AThen, ABlk, reduceIte, reduceEqDiff]); refine hK8 _ ?_
            refine awp_region tyOk tyPos [] rfl ?_
            all_goals simp only [push_cast, ↓brB_true, ↓brB_false, ↓reduceIte, reduceMod, reduceMul, reduceDiv, reduceAdd, reduceSub, reduceEqDiff, Nat.reduceBEq, reduceLT, reduceLeDiff, reduceCtorEq]
            all_goals repeat' (first | (apply brB_mk <;> (intro hg; (try simp only [push_cast] at hg))) | apply And.intro | (intro hg; (try simp only [push_cast] at hg)))
            all_goals first | exact True.intro | exact rfl | contradiction | omega | with_reducible assumption | (exact getE_dII (by omega)) | skip
            refine hL1 _ ⟨k + 1, by omega, by omega, ?_⟩
            (try rw [List.take_of_length_le (l := List.replicate k (scoreV g.a.owner.length (gi g.prio v).toNat)) (by omega)])
            rw [List.replicate_succ']
            refine cov_of rfl ?_ ?_ ?_ <;> simp only [covS, covL, push_cast, ↓brB_true, ↓brB_false, ↓reduceIte, reduceMod, reduceMul, reduceDiv, reduceAdd, reduceSub, reduceEqDiff, Nat.reduceBEq, reduceLT, reduceLeDiff, reduceCtorEq]
          ·
            refine awp_exit ?_
            have hkk : k = (gl g.a.next v).length := by omega
            subst hkk
            (try simp only [AThen, ABlk, reduceIte, reduceEqDiff]); refine hK6 _ ?_
            refine awp_regionN false tyOk tyPos ?_ rfl ?_
            · kernel_rfl
            simp only [push_cast, ↓brB_true, ↓brB_false, ↓reduceIte, reduceMod, reduceMul, reduceDiv, reduceAdd, reduceSub, reduceEqDiff, Nat.reduceBEq, reduceLT, reduceLeDiff, reduceCtorEq]
            all_goals repeat' (first | (apply brB_mk <;> (intro hg; (try simp only [push_cast] at hg))) | apply And.intro | (intro hg; (try simp only [push_cast] at hg)))
            all_goals first | exact True.intro | exact rfl | contradiction | omega | with_reducible assumption | (exact getE_dII (by omega)) | skip
            (try simp only [AThen, ABlk, reduceIte, reduceEqDiff]); refine hK4 _ ?_
            refine awp_settleB [.sl 2, .sl 22, .sl 22] 4 ?_
            simp only [push_cast, ↓brB_true, ↓brB_false, ↓reduceIte, reduceMod, reduceMul, reduceDiv, reduceAdd, reduceSub, reduceEqDiff, Nat.reduceBEq, reduceLT, reduceLeDiff, reduceCtorEq]
            refine awp_region tyOk tyPos [] rfl ?_
            all_goals simp only [push_cast, ↓brB_true, ↓brB_false, ↓reduceIte, reduceMod, reduceMul, reduceDiv, reduceAdd, reduceSub, reduceEqDiff, Nat.reduceBEq, reduceLT, reduceLeDiff, reduceCtorEq]
            all_goals repeat' (first | (apply brB_mk <;> (intro hg; (try simp only [push_cast] at hg))) | apply And.intro | (intro hg; (try simp only [push_cast] at hg)))
            all_goals first | exact True.intro | exact rfl | contradiction | omega | with_reducible assumption | (exact getE_dII (by omega)) | skip
            refine hL0 _ ⟨v + 1, ⟨by omega, fun j hj => (by
                by_cases hjv : j = v
                · subst hjv; with_reducible assumption
                · exact hall j (by omega))⟩, by omega, ?_⟩
            (try rw [List.take_of_length_le (l := bridgeR g v) (by omega)])
            (try rw [List.take_of_length_le (l := List.replicate (gl g.a.next v).length (scoreV g.a.owner.length (gi g.prio v).toNat)) (by omega)])
            rw [bridgeR_s]
            unfold rowV
            refine cov_of rfl ?_ ?_ ?_ <;> simp only [covS, covL, push_cast, ↓brB_true, ↓brB_false, ↓reduceIte, reduceMod, reduceMul, reduceDiv, reduceAdd, reduceSub, reduceEqDiff, Nat.reduceBEq, reduceLT, reduceLeDiff, reduceCtorEq]
    ·
      refine awp_exit ?_
      (try simp only [AThen, ABlk, reduceIte, reduceEqDiff]); refine hK2 _ ?_
      refine awp_seq' fun K hK => ?_
      refine awp_region tyOk tyPos [] rfl ?_
      all_goals simp only [push_cast, ↓brB_true, ↓brB_false, ↓reduceIte, reduceMod, reduceMul, reduceDiv, reduceAdd, reduceSub, reduceEqDiff, Nat.reduceBEq, reduceLT, reduceLeDiff, reduceCtorEq]
      all_goals repeat' (first | (apply brB_mk <;> (intro hg; (try simp only [push_cast] at hg))) | apply And.intro | (intro hg; (try simp only [push_cast] at hg)))
      all_goals first | exact True.intro | exact rfl | contradiction | omega | with_reducible assumption | (exact getE_dII (by omega)) | skip
      all_goals first | (refine hK _ ?_; clear hK K) | (simp only [push_cast]; done)
      refine awp_ret ?_
      (try simp only [AThen, ABlk])
      refine ⟨Or.inl rfl, ?_⟩
      simp only [RetOk, resVars, resVar, push_cast, ↓brB_true, ↓brB_false, ↓reduceIte, reduceMod, reduceMul, reduceDiv, reduceAdd, reduceSub, reduceEqDiff, Nat.reduceBEq, reduceLT, reduceLeDiff, reduceCtorEq]
      have hkv : v = g.a.owner.length := by omega
      subst hkv
      have h9 := bridge_yes hok hp24 hall
      rw [bridgeW_yes h9, h9]
      all_goals first | rfl | (simp [bridgeR_len]; done)
end Go.Proofs.Ytfipgnbpkbnalaa
