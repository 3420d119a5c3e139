/- visits to named vertices: both sides -/
import Derived.Test.YtklconkoamoabaaB9zfg
import Derived.Test.YtklconkoamoabaaB7zfg
namespace Go.Proofs.Ytklconkoamoabaa
open Nat renaming reduceMod → zA, reduceMul → zB, reduceDiv → zC, reduceAdd → zD, reduceSub → zE, reduceEqDiff → zF, reduceBEq → zG, reduceLT → zH, reduceLeDiff → zI
open Go.RowKit
set_option linter.unusedVariables false
set_option linter.unusedSimpArgs false

theorem perm_sorted_eq : ∀ {xs ys : List Int}, xs.Perm ys → xs.Pairwise (· ≤ ·) → ys.Pairwise (· ≤ ·) → xs = ys
  | [], ys, h, _, _ => (List.Perm.nil_eq h)
  | x :: xs, [], h, _, _ => by have := h.length_eq; simp at this
  | x :: xs, y :: ys, h, h1, h2 => by
    rw [List.pairwise_cons] at h1 h2
    have hx : x ∈ y :: ys := h.subset (by simp)
    have hy : y ∈ x :: xs := h.symm.subset (by simp)
    have e : x = y := by
      rw [List.mem_cons] at hx hy
      rcases hx with hx | hx
      · exact hx
      · rcases hy with hy | hy
        · exact hy.symm
        · have := h1.1 y hy; have := h2.1 x hx; omega
    subst e
    rw [perm_sorted_eq ((List.perm_cons x).1 h) h1.2 h2.2]
theorem pw_le {xs : List Int} (h : xs.Pairwise (· < ·)) : xs.Pairwise (· ≤ ·) := h.imp fun h => by omega
theorem pw_nodup {xs : List Int} (h : xs.Pairwise (· < ·)) : xs.Nodup := h.imp fun h => by omega
theorem sort_strict {xs : List Int} (h : xs.Nodup) : (sortI xs).Pairwise (· < ·) := by
  have h1 := sortI_sorted xs
  have h2 : (sortI xs).Nodup := (sortI_perm xs).nodup_iff.2 h
  unfold List.Nodup at h2
  exact (h1.and h2).imp fun h => by omega
def visB (f : Fm) (r : List Int) : Bool := famI f 256 && decide (sortI r = f.names)
theorem visB_is {f : Fm} {r : List Int} (h : famI f 256 = true) : visB f r = decide (sortI r = f.names) := by unfold visB; rw [h]; rfl
theorem vis_facts {f : Fm} {r : List Int} (h : visB f r = true) : famI f 256 = true ∧ sortI r = f.names ∧ r.length ≤ 4 ∧ r.Nodup ∧ ∀ x, x ∈ r ↔ x ∈ f.names := by
  unfold visB at h
  rw [Bool.and_eq_true, decide_eq_true_eq] at h
  obtain ⟨h1, h2⟩ := h
  have hn := famI_names h1
  refine ⟨h1, h2, by have := sortI_len r; rw [h2] at this; omega, ?_, fun x => ?_⟩
  · rw [← (sortI_perm r).nodup_iff, h2]; exact pw_nodup (set_pw hn.1)
  · rw [← (sortI_perm r).mem_iff, h2]
theorem vis_has {f : Fm} {r : List Int} (h : visB f r = true) (v : Int) : hasB f.names v = hasB r v := by
  have := (vis_facts h).2.2.2.2 v
  cases h1 : hasB f.names v <;> cases h2 : hasB r v <;> first | rfl | (have a := hasB_iff f.names v; have b := hasB_iff r v; rw [h1] at a; rw [h2] at b; simp_all)
theorem nodup_takeI {xs : List Int} (h : xs.Nodup) (k : Nat) : (xs.take k).Nodup := h.sublist (List.take_sublist _ _)
theorem vis_set {f : Fm} {r : List Int} (h : visB f r = true) (k : Nat) : sortI (r.take k) = meetI f.names (r.take k) := by
  obtain ⟨h1, h2, h3, h4, h5⟩ := vis_facts h
  refine sorted_ext (sort_strict (nodup_takeI h4 k)) ((set_pw (famI_names h1).1).filter _) fun x => ?_
  unfold meetI
  rw [(sortI_perm _).mem_iff, List.mem_filter, hasB_iff, ← h5]
  exact ⟨fun hm => ⟨List.mem_of_mem_take hm, hm⟩, fun hm => hm.2⟩
def nextV (r : List Int) (v : Int) : List Int := if hasB r v then v :: r.filter (fun x => !decide (x = v)) else r
theorem nextV_no {r : List Int} {v : Int} (h : hasB r v = false) : nextV r v = r := by unfold nextV; rw [h]; rfl
theorem nextV_yes {r : List Int} {v : Int} (h : hasB r v = true) : nextV r v = v :: r.filter (fun x => !decide (x = v)) := by unfold nextV; rw [h]; rfl
theorem nextV_le (r : List Int) (v : Int) : (nextV r v).length ≤ r.length + 1 := by
  unfold nextV
  split
  · simp only [List.length_cons]; have := List.length_filter_le (fun x => !decide (x = v)) r; omega
  · omega
def prioV (f : Fm) (r : List Int) (v : Int) : Int := if hasB r v then 2 * fidx r v + (if oneB f.sets (meetI f.names (r.take (fidx r v + 1))) then 2 else 1) else (if oneB f.sets [] then 0 else 1)
theorem hasB_fidx {r : List Int} {v : Int} : hasB r v = decide (fidx r v < r.length) := rfl
theorem ix_rg (r : List Int) (v : Int) : -1 ≤ ixB r v ∧ ixB r v < r.length := by
  unfold ixB
  split <;> omega
theorem prioV_none0 {f : Fm} {r : List Int} {v : Int} {K : Nat} (h : ixB r v < 0) (hK : K = (ixB r v + 1).toNat) (hs : sortI (r.take K) = meetI f.names (r.take K)) (ho : oneB f.sets (sortI (r.take K)) = true) : (0 : Int) = prioV f r v := by
  have hx : ¬ fidx r v < r.length := fun h2 => by unfold ixB at h; rw [if_pos h2] at h; omega
  have : K = 0 := by have := (ix_rg r v).1; omega
  subst this
  rw [List.take_zero, sortI_nil] at ho
  unfold prioV
  rw [hasB_fidx, decide_eq_false hx, ho]
  rfl
theorem prioV_none1 {f : Fm} {r : List Int} {v : Int} {K : Nat} (h : ixB r v < 0) (hK : K = (ixB r v + 1).toNat) (hs : sortI (r.take K) = meetI f.names (r.take K)) (ho : oneB f.sets (sortI (r.take K)) = false) : (1 : Int) = prioV f r v := by
  have hx : ¬ fidx r v < r.length := fun h2 => by unfold ixB at h; rw [if_pos h2] at h; omega
  have : K = 0 := by have := (ix_rg r v).1; omega
  subst this
  rw [List.take_zero, sortI_nil] at ho
  unfold prioV
  rw [hasB_fidx, decide_eq_false hx, ho]
  rfl
theorem prioV_some2 {f : Fm} {r : List Int} {v : Int} {K : Nat} (h : ¬ ixB r v < 0) (hK : K = (ixB r v + 1).toNat) (hs : sortI (r.take K) = meetI f.names (r.take K)) (ho : oneB f.sets (sortI (r.take K)) = true) : 2 * ixB r v + 1 + 1 = prioV f r v := by
  have hx : fidx r v < r.length := by
    unfold ixB at h
    split at h
    · assumption
    · omega
  have hi : ixB r v = fidx r v := by unfold ixB; rw [if_pos hx]
  have : K = fidx r v + 1 := by omega
  subst this
  rw [hs] at ho
  unfold prioV
  rw [hasB_fidx, decide_eq_true hx, ho, hi]
  simp only [if_true]
  omega
theorem prioV_some1 {f : Fm} {r : List Int} {v : Int} {K : Nat} (h : ¬ ixB r v < 0) (hK : K = (ixB r v + 1).toNat) (hs : sortI (r.take K) = meetI f.names (r.take K)) (ho : oneB f.sets (sortI (r.take K)) = false) : 2 * ixB r v + 1 = prioV f r v := by
  have hx : fidx r v < r.length := by
    unfold ixB at h
    split at h
    · assumption
    · omega
  have hi : ixB r v = fidx r v := by unfold ixB; rw [if_pos hx]
  have : K = fidx r v + 1 := by omega
  subst this
  rw [hs] at ho
  unfold prioV
  rw [hasB_fidx, decide_eq_true hx, ho, hi]
  simp
set_option maxRecDepth 20000 in
set_option maxHeartbeats 4000000 in
theorem lessInOrder_fn (r : List Int) (hr : r.length ≤ 1048576) (v : Int) : Fn Try.prog tyT 104 [.c (DI r), .c (.int .i64 v)] [.c (DI (r.filter fun x => !decide (x = v)))] := by
  refine Fn_of (fn := Try.f104) (ts := [4]) Try.func104 (by kernel_rfl) rfl rfl (by rw [Try.ntmps104]; exact Nat.le_of_ble_eq_true rfl) rfl (by simp only [szA, List.mem_cons, List.not_mem_nil, or_false, forall_eq_or_imp, forall_eq, VT.cells, szL]; try decide) ?_
  rw [Try.ntmps104]
  simp only [push_cast, ↓brB_true, ↓brB_false, ↓reduceIte, zA, zB, zC, zD, zE, zF, zG, zH, zI, reduceCtorEq]
  refine awp_seq' fun K hK => ?_
  refine awp_region tyOk tyPos [] rfl ?_
  simp only [push_cast, ↓brB_true, ↓brB_false, ↓reduceIte, zA, zB, zC, zD, zE, zF, zG, zH, zI, reduceCtorEq]
  repeat' apply And.intro
  all_goals try exact gB
  all_goals first | (refine hK _ ?_; clear hK K) | (simp only [push_cast]; done)
  refine awp_seq' fun K hK => ?_
  refine awp_region tyOk tyPos [] rfl ?_
  simp only [push_cast, ↓brB_true, ↓brB_false, ↓reduceIte, zA, zB, zC, zD, zE, zF, zG, zH, zI, reduceCtorEq]
  repeat' apply And.intro
  all_goals try exact gB
  all_goals first | (refine hK _ ?_; clear hK K) | (simp only [push_cast]; done)
  refine awp_seq' fun K1 hK1 => ?_
  refine awp_seq' fun K hK => ?_
  refine awp_region tyOk tyPos [] rfl ?_
  simp only [push_cast, ↓brB_true, ↓brB_false, ↓reduceIte, zA, zB, zC, zD, zE, zF, zG, zH, zI, reduceCtorEq]
  repeat' apply And.intro
  all_goals try exact gB
  all_goals first | (refine hK _ ?_; clear hK K) | (simp only [push_cast]; done)
  refine awp_block ?_
  refine awp_loopU [5,7,11,12,13,14,15,16,17,18,19,20,21,22] [80] (fun (q : Nat × List Int) => [(11, .int .i64 q.1), (5, .sl 80 [] 0 q.2.length 2)]) (fun q => []) (fun q => [(80, ⟨.ex, 2, dI q.2, none⟩)]) (fun q => q.1 ≤ r.length ∧ q.2 = (r.take q.1).filter (fun x => !decide (x = v))) (fun q => r.length - q.1) (0, []) ?_ ⟨by omega, rfl⟩ ?_
  ·
    simp only [show dI ([] : List Int) = [] from rfl]
    refine cov_of rfl ?_ ?_ ?_ <;> simp only [covS, covL, push_cast, ↓brB_true, ↓brB_false, ↓reduceIte, zA, zB, zC, zD, zE, zF, zG, zH, zI, reduceCtorEq]
  · rintro ⟨k, o⟩ ⟨hk, ho⟩ KL0 hL0
    simp only at hk ho
    have hol : o.length ≤ r.length := by rw [ho]; exact tfilt_le _ _ _
    simp only [push_cast, ↓brB_true, ↓brB_false, ↓reduceIte, zA, zB, zC, zD, zE, zF, zG, zH, zI, reduceCtorEq]
    refine awp_seq' fun K hK => ?_
    refine awp_region tyOk tyPos [] rfl ?_
    simp only [push_cast, ↓brB_true, ↓brB_false, ↓reduceIte, zA, zB, zC, zD, zE, zF, zG, zH, zI, reduceCtorEq]
    repeat' apply And.intro
    all_goals try exact gB
    all_goals first | (refine hK _ ?_; clear hK K) | (simp only [push_cast]; done)
    refine awp_seq' fun K2 hK2 => ?_
    refine awp_cond rfl (fun hc => ?_) (fun hc => ?_) <;> (try simp only [push_cast] at hc)
    ·
      refine awp_skip ?_
      (try simp only [AThen, ABlk, reduceIte, zF]); refine hK2 _ ?_
      refine awp_seq' fun K3 hK3 => ?_
      refine awp_block ?_
      refine awp_seq' fun K hK => ?_
      refine awp_region tyOk tyPos [] rfl ?_
      simp only [push_cast, ↓brB_true, ↓brB_false, ↓reduceIte, zA, zB, zC, zD, zE, zF, zG, zH, zI, reduceCtorEq]
      repeat' apply And.intro
      all_goals try exact gB
      all_goals first | (refine hK _ ?_; clear hK K) | (simp only [push_cast]; done)
      refine awp_seq' fun K hK => ?_
      refine awp_region tyOk tyPos [] rfl ?_
      simp only [push_cast, ↓brB_true, ↓brB_false, ↓reduceIte, zA, zB, zC, zD, zE, zF, zG, zH, zI, reduceCtorEq]
      repeat' apply And.intro
      all_goals try exact gB
      all_goals first | (refine hK _ ?_; clear hK K) | (simp only [push_cast]; done)
      refine awp_cond rfl (fun hc => ?_) (fun hc => ?_) <;> (try simp only [push_cast] at hc)
      ·
        refine awp_region tyOk tyPos [] rfl ?_
        simp only [push_cast, ↓brB_true, ↓brB_false, ↓reduceIte, zA, zB, zC, zD, zE, zF, zG, zH, zI, reduceCtorEq]
        repeat' apply And.intro
        all_goals try exact gB
        (try simp only [AThen, ABlk, reduceIte, zF]); refine hK3 _ ?_
        refine awp_region tyOk tyPos [] rfl ?_
        simp only [push_cast, ↓brB_true, ↓brB_false, ↓reduceIte, zA, zB, zC, zD, zE, zF, zG, zH, zI, reduceCtorEq]
        repeat' apply And.intro
        all_goals try exact gB
        refine hL0 _ ⟨(k + 1, o ++ [gi r k]), ⟨by simp only; omega, by simp only; rw [filt_yes (by omega) (by simp only [decide_eq_false hc, Bool.not_false]), ← ho]⟩, by simp only; omega, ?_⟩
        refine cov_of rfl ?_ ?_ ?_ <;> simp only [covS, covL, push_cast, ↓brB_true, ↓brB_false, ↓reduceIte, zA, zB, zC, zD, zE, zF, zG, zH, zI, reduceCtorEq]
        all_goals (try (rw [List.length_append]; rfl))
      ·
        refine awp_skip ?_
        (try simp only [AThen, ABlk, reduceIte, zF]); refine hK3 _ ?_
        refine awp_region tyOk tyPos [] rfl ?_
        simp only [push_cast, ↓brB_true, ↓brB_false, ↓reduceIte, zA, zB, zC, zD, zE, zF, zG, zH, zI, reduceCtorEq]
        repeat' apply And.intro
        all_goals try exact gB
        refine hL0 _ ⟨(k + 1, o), ⟨by simp only; omega, by simp only; rw [filt_no (by omega) (by simp only [decide_eq_true hc, Bool.not_true]), ← ho]⟩, by simp only; omega, ?_⟩
        refine cov_of rfl ?_ ?_ ?_ <;> simp only [covS, covL, push_cast, ↓brB_true, ↓brB_false, ↓reduceIte, zA, zB, zC, zD, zE, zF, zG, zH, zI, reduceCtorEq]
        all_goals (try (rw [List.length_append]; rfl))
    ·
      refine awp_exit ?_
      have hkk : k = r.length := by omega
      subst hkk
      rw [List.take_length] at ho
      (try simp only [AThen, ABlk, reduceIte, zF]); refine hK1 _ ?_
      refine awp_seq' fun K hK => ?_
      refine awp_region tyOk tyPos [] rfl ?_
      simp only [push_cast, ↓brB_true, ↓brB_false, ↓reduceIte, zA, zB, zC, zD, zE, zF, zG, zH, zI, reduceCtorEq]
      repeat' apply And.intro
      all_goals try exact gB
      all_goals first | (refine hK _ ?_; clear hK K) | (simp only [push_cast]; done)
      refine awp_ret ?_
      (try simp only [AThen, ABlk])
      refine ⟨Or.inl rfl, ?_⟩
      simp only [RetOk, push_cast, ↓brB_true, ↓brB_false, ↓reduceIte, zA, zB, zC, zD, zE, zF, zG, zH, zI, reduceCtorEq]
      subst ho
      first | rfl | (simp; done)
set_option maxRecDepth 20000 in
set_option maxHeartbeats 4000000 in
theorem nextVisits_fn (f : Fm) (hf : f.Ln 1048576) (r : List Int) (hr : r.length ≤ 1048576) (v : Int) (hv : visB f r = true) : Fn Try.prog tyT 73 [.agg (dFm f), .c (DI r), .c (.int .i64 v)] [.c (DI (nextV r v))] := by
  have h1 := hf.names
  have h2 := hf.sets.1
  unfold LnI at h1
  have hrr : ∀ v, (gl f.sets v).length ≤ 1048576 := fun v => gl_le hf.sets v
  have hC := Contains_fn f.names v h1
  rw [vis_has hv] at hC
  have hL := lessInOrder_fn r hr v
  have hl4 := (vis_facts hv).2.2.1
  have hfl := filt_le r (fun x => !decide (x = v))
  unfold dFm
  refine Fn_of (fn := Try.f73) (ts := [6]) Try.func73 (by kernel_rfl) rfl rfl (by rw [Try.ntmps73]; exact Nat.le_of_ble_eq_true rfl) rfl (by simp only [szA, List.mem_cons, List.not_mem_nil, or_false, forall_eq_or_imp, forall_eq, VT.cells, szL]; try decide) ?_
  rw [Try.ntmps73]
  simp only [push_cast, ↓brB_true, ↓brB_false, ↓reduceIte, zA, zB, zC, zD, zE, zF, zG, zH, zI, reduceCtorEq]
  refine awp_seq' fun K hK => ?_
  refine awp_region tyOk tyPos [] rfl ?_
  simp only [push_cast, ↓brB_true, ↓brB_false, ↓reduceIte, zA, zB, zC, zD, zE, zF, zG, zH, zI, reduceCtorEq]
  repeat' apply And.intro
  all_goals try exact gB
  all_goals first | (refine hK _ ?_; clear hK K) | (simp only [push_cast]; done)
  refine awp_seq' fun K1 hK1 => ?_
  refine awp_seq' fun K hK => ?_
  refine awp_region tyOk tyPos [] rfl ?_
  all_goals refine aops_cut 4 fun K9 hK9 => ?_
  all_goals simp only [push_cast, ↓brB_true, ↓brB_false, ↓reduceIte, zA, zB, zC, zD, zE, zF, zG, zH, zI, reduceCtorEq]
  all_goals repeat' (first | (apply brB_mk <;> (intro hg; (try simp only [push_cast] at hg))) | (refine ⟨_, hC, ?_⟩; simp only [push_cast, ↓brB_true, ↓brB_false, ↓reduceIte, zA, zB, zC, zD, zE, zF, zG, zH, zI, reduceCtorEq]) | apply And.intro | (intro hg; (try simp only [push_cast] at hg)))
  all_goals try exact gA
  all_goals first | (refine hK9 _ ?_; clear hK9 K9) | (simp only [push_cast]; done)
  all_goals simp only [push_cast, ↓brB_true, ↓brB_false, ↓reduceIte, zA, zB, zC, zD, zE, zF, zG, zH, zI, reduceCtorEq]
  all_goals repeat' (first | (apply brB_mk <;> (intro hg; (try simp only [push_cast] at hg))) | (refine ⟨_, hC, ?_⟩; simp only [push_cast, ↓brB_true, ↓brB_false, ↓reduceIte, zA, zB, zC, zD, zE, zF, zG, zH, zI, reduceCtorEq]) | apply And.intro | (intro hg; (try simp only [push_cast] at hg)))
  all_goals try exact gA
  all_goals first | (refine hK _ ?_; clear hK K) | (simp only [push_cast]; done)
  refine awp_cond rfl (fun hc => ?_) (fun hc => ?_) <;> (try simp only [push_cast] at hc)
  ·
    refine awp_seq' fun K hK => ?_
    refine awp_region tyOk tyPos [] rfl ?_
    simp only [push_cast, ↓brB_true, ↓brB_false, ↓reduceIte, zA, zB, zC, zD, zE, zF, zG, zH, zI, reduceCtorEq]
    repeat' apply And.intro
    all_goals try exact gB
    all_goals first | (refine hK _ ?_; clear hK K) | (simp only [push_cast]; done)
    refine awp_ret ?_
    (try simp only [AThen, ABlk])
    refine ⟨Or.inl rfl, ?_⟩
    simp only [RetOk, push_cast, ↓brB_true, ↓brB_false, ↓reduceIte, zA, zB, zC, zD, zE, zF, zG, zH, zI, reduceCtorEq]
    rw [nextV_no (by with_reducible assumption)]
    (try rw [List.take_of_length_le (l := r) (Nat.le_refl _)])
    all_goals first | rfl | exact ⟨rfl, rfl⟩ | (simp; done)
  ·
    refine awp_skip ?_
    (try simp only [AThen, ABlk, reduceIte, zF]); refine hK1 _ ?_
    refine awp_seq' fun K hK => ?_
    refine awp_region tyOk tyPos [] rfl ?_
    all_goals refine aops_cut 5 fun K9 hK9 => ?_
    all_goals simp only [push_cast, ↓brB_true, ↓brB_false, ↓reduceIte, zA, zB, zC, zD, zE, zF, zG, zH, zI, reduceCtorEq]
    all_goals repeat' (first | (apply brB_mk <;> (intro hg; (try simp only [push_cast] at hg))) | (refine ⟨_, hL, ?_⟩; simp only [push_cast, ↓brB_true, ↓brB_false, ↓reduceIte, zA, zB, zC, zD, zE, zF, zG, zH, zI, reduceCtorEq]) | apply And.intro | (intro hg; (try simp only [push_cast] at hg)))
    all_goals try exact gA
    all_goals first | (refine hK9 _ ?_; clear hK9 K9) | (simp only [push_cast]; done)
    all_goals simp only [push_cast, ↓brB_true, ↓brB_false, ↓reduceIte, zA, zB, zC, zD, zE, zF, zG, zH, zI, reduceCtorEq]
    all_goals repeat' (first | (apply brB_mk <;> (intro hg; (try simp only [push_cast] at hg))) | (refine ⟨_, hL, ?_⟩; simp only [push_cast, ↓brB_true, ↓brB_false, ↓reduceIte, zA, zB, zC, zD, zE, zF, zG, zH, zI, reduceCtorEq]) | apply And.intro | (intro hg; (try simp only [push_cast] at hg)))
    all_goals try exact gA
    all_goals first | (refine hK _ ?_; clear hK K) | (simp only [push_cast]; done)
    refine awp_ret ?_
    (try simp only [AThen, ABlk])
    refine ⟨Or.inl rfl, ?_⟩
    simp only [RetOk, push_cast, ↓brB_true, ↓brB_false, ↓reduceIte, zA, zB, zC, zD, zE, zF, zG, zH, zI, reduceCtorEq]
    rw [nextV_yes (by with_reducible assumption)]
    (try rw [List.take_of_length_le (l := r.filter fun x => !decide (x = v)) (Nat.le_refl _)])
    exact ⟨rfl, Nat.add_comm _ _⟩
set_option maxRecDepth 20000 in
set_option maxHeartbeats 4000000 in
theorem l18Next_fn (r : List Int) (hr : r.length ≤ 1048570) (v : Int) : Fn Try.prog tyT 65 [.c (DI r), .c (.int .i64 v)] [.c (DI (nextV r v))] := by
  have hC := l16Has_fn r v (by omega)
  refine Fn_of (fn := Try.f65) (ts := [4]) Try.func65 (by kernel_rfl) rfl rfl (by rw [Try.ntmps65]; exact Nat.le_of_ble_eq_true rfl) rfl (by simp only [szA, List.mem_cons, List.not_mem_nil, or_false, forall_eq_or_imp, forall_eq, VT.cells, szL]; try decide) ?_
  rw [Try.ntmps65]
  simp only [push_cast, ↓brB_true, ↓brB_false, ↓reduceIte, zA, zB, zC, zD, zE, zF, zG, zH, zI, reduceCtorEq]
  refine awp_seq' fun K hK => ?_
  refine awp_region tyOk tyPos [] rfl ?_
  simp only [push_cast, ↓brB_true, ↓brB_false, ↓reduceIte, zA, zB, zC, zD, zE, zF, zG, zH, zI, reduceCtorEq]
  repeat' apply And.intro
  all_goals try exact gB
  all_goals first | (refine hK _ ?_; clear hK K) | (simp only [push_cast]; done)
  refine awp_seq' fun K1 hK1 => ?_
  refine awp_seq' fun K hK => ?_
  refine awp_region tyOk tyPos [] rfl ?_
  all_goals refine aops_cut 3 fun K9 hK9 => ?_
  all_goals simp only [push_cast, ↓brB_true, ↓brB_false, ↓reduceIte, zA, zB, zC, zD, zE, zF, zG, zH, zI, reduceCtorEq]
  all_goals repeat' (first | (apply brB_mk <;> (intro hg; (try simp only [push_cast] at hg))) | (refine ⟨_, hC, ?_⟩; simp only [push_cast, ↓brB_true, ↓brB_false, ↓reduceIte, zA, zB, zC, zD, zE, zF, zG, zH, zI, reduceCtorEq]) | apply And.intro | (intro hg; (try simp only [push_cast] at hg)))
  all_goals try exact gA
  all_goals first | (refine hK9 _ ?_; clear hK9 K9) | (simp only [push_cast]; done)
  all_goals simp only [push_cast, ↓brB_true, ↓brB_false, ↓reduceIte, zA, zB, zC, zD, zE, zF, zG, zH, zI, reduceCtorEq]
  all_goals repeat' (first | (apply brB_mk <;> (intro hg; (try simp only [push_cast] at hg))) | (refine ⟨_, hC, ?_⟩; simp only [push_cast, ↓brB_true, ↓brB_false, ↓reduceIte, zA, zB, zC, zD, zE, zF, zG, zH, zI, reduceCtorEq]) | apply And.intro | (intro hg; (try simp only [push_cast] at hg)))
  all_goals try exact gA
  all_goals first | (refine hK _ ?_; clear hK K) | (simp only [push_cast]; done)
  refine awp_cond rfl (fun hc => ?_) (fun hc => ?_) <;> (try simp only [push_cast] at hc)
  ·
    refine awp_seq' fun K hK => ?_
    refine awp_region tyOk tyPos [] rfl ?_
    simp only [push_cast, ↓brB_true, ↓brB_false, ↓reduceIte, zA, zB, zC, zD, zE, zF, zG, zH, zI, reduceCtorEq]
    repeat' apply And.intro
    all_goals try exact gB
    all_goals first | (refine hK _ ?_; clear hK K) | (simp only [push_cast]; done)
    refine awp_ret ?_
    (try simp only [AThen, ABlk])
    refine ⟨Or.inl rfl, ?_⟩
    simp only [RetOk, push_cast, ↓brB_true, ↓brB_false, ↓reduceIte, zA, zB, zC, zD, zE, zF, zG, zH, zI, reduceCtorEq]
    rw [nextV_no (by with_reducible assumption)]
    (try rw [List.take_of_length_le (l := r) (Nat.le_refl _)])
    all_goals first | rfl | exact ⟨rfl, rfl⟩ | (simp; done)
  ·
    refine awp_skip ?_
    (try simp only [AThen, ABlk, reduceIte, zF]); refine hK1 _ ?_
    refine awp_seq' fun K hK => ?_
    refine awp_region tyOk tyPos [] rfl ?_
    simp only [push_cast, ↓brB_true, ↓brB_false, ↓reduceIte, zA, zB, zC, zD, zE, zF, zG, zH, zI, reduceCtorEq]
    repeat' apply And.intro
    all_goals try exact gB
    all_goals first | (refine hK _ ?_; clear hK K) | (simp only [push_cast]; done)
    refine awp_seq' fun K2 hK2 => ?_
    refine awp_seq' fun K hK => ?_
    refine awp_region tyOk tyPos [] rfl ?_
    simp only [push_cast, ↓brB_true, ↓brB_false, ↓reduceIte, zA, zB, zC, zD, zE, zF, zG, zH, zI, reduceCtorEq]
    repeat' apply And.intro
    all_goals try exact gB
    all_goals first | (refine hK _ ?_; clear hK K) | (simp only [push_cast]; done)
    refine awp_block ?_
    refine awp_loopU [5,6,16,17,18,19,20,21,22,23,24,25,26,27,28,29,30,31,32,33,34] [80] (fun (q : Nat × List Int) => [(6, .int .i64 q.1), (5, .sl 80 [] 0 (q.2.length + 1) 2)]) (fun q => []) (fun q => [(80, ⟨.ex, 2, dI (v :: q.2), none⟩)]) (fun q => q.1 ≤ r.length ∧ q.2 = (r.take q.1).filter (fun x => !decide (x = v))) (fun q => r.length - q.1) (0, []) ?_ ⟨by omega, rfl⟩ ?_
    ·
      simp only [show dI (v :: ([] : List Int)) = [D.int .i64 v] from rfl]
      refine cov_of rfl ?_ ?_ ?_ <;> simp only [covS, covL, push_cast, ↓brB_true, ↓brB_false, ↓reduceIte, zA, zB, zC, zD, zE, zF, zG, zH, zI, reduceCtorEq]
    · rintro ⟨k, o⟩ ⟨hk, ho⟩ KL0 hL0
      simp only at hk ho
      have hol : o.length ≤ r.length := by rw [ho]; exact tfilt_le _ _ _
      simp only [push_cast, ↓brB_true, ↓brB_false, ↓reduceIte, zA, zB, zC, zD, zE, zF, zG, zH, zI, reduceCtorEq]
      refine awp_seq' fun K3 hK3 => ?_
      refine awp_seq' fun K hK => ?_
      refine awp_region tyOk tyPos [] rfl ?_
      simp only [push_cast, ↓brB_true, ↓brB_false, ↓reduceIte, zA, zB, zC, zD, zE, zF, zG, zH, zI, reduceCtorEq]
      repeat' apply And.intro
      all_goals try exact gB
      all_goals first | (refine hK _ ?_; clear hK K) | (simp only [push_cast]; done)
      refine awp_cond rfl (fun hc => ?_) (fun hc => ?_) <;> (try simp only [push_cast] at hc)
      ·
        refine awp_skip ?_
        (try simp only [AThen, ABlk, reduceIte, zF]); refine hK3 _ ?_
        refine awp_seq' fun K4 hK4 => ?_
        refine awp_block ?_
        refine awp_seq' fun K hK => ?_
        refine awp_region tyOk tyPos [] rfl ?_
        simp only [push_cast, ↓brB_true, ↓brB_false, ↓reduceIte, zA, zB, zC, zD, zE, zF, zG, zH, zI, reduceCtorEq]
        repeat' apply And.intro
        all_goals try exact gB
        all_goals first | (refine hK _ ?_; clear hK K) | (simp only [push_cast]; done)
        refine awp_cond rfl (fun hc => ?_) (fun hc => ?_) <;> (try simp only [push_cast] at hc)
        ·
          refine awp_region tyOk tyPos [] rfl ?_
          simp only [push_cast, ↓brB_true, ↓brB_false, ↓reduceIte, zA, zB, zC, zD, zE, zF, zG, zH, zI, reduceCtorEq]
          repeat' apply And.intro
          all_goals try exact gB
          (try simp only [AThen, ABlk, reduceIte, zF]); refine hK4 _ ?_
          refine awp_region tyOk tyPos [] rfl ?_
          simp only [push_cast, ↓brB_true, ↓brB_false, ↓reduceIte, zA, zB, zC, zD, zE, zF, zG, zH, zI, reduceCtorEq]
          repeat' apply And.intro
          all_goals try exact gB
          refine hL0 _ ⟨(k + 1, o ++ [gi r k]), ⟨by simp only; omega, by simp only; rw [filt_yes (by omega) (by simp only [decide_eq_false hc, Bool.not_false]), ← ho]⟩, by simp only; omega, ?_⟩
          refine cov_of rfl ?_ ?_ ?_ <;> simp only [covS, covL, push_cast, ↓brB_true, ↓brB_false, ↓reduceIte, zA, zB, zC, zD, zE, zF, zG, zH, zI, reduceCtorEq]
          all_goals (try (rw [List.length_append]; rfl))
          all_goals (try (first | rfl | (simp; done)))
        ·
          refine awp_skip ?_
          (try simp only [AThen, ABlk, reduceIte, zF]); refine hK4 _ ?_
          refine awp_region tyOk tyPos [] rfl ?_
          simp only [push_cast, ↓brB_true, ↓brB_false, ↓reduceIte, zA, zB, zC, zD, zE, zF, zG, zH, zI, reduceCtorEq]
          repeat' apply And.intro
          all_goals try exact gB
          refine hL0 _ ⟨(k + 1, o), ⟨by simp only; omega, by simp only; rw [filt_no (by omega) (by simp only [decide_eq_true hc, Bool.not_true]), ← ho]⟩, by simp only; omega, ?_⟩
          refine cov_of rfl ?_ ?_ ?_ <;> simp only [covS, covL, push_cast, ↓brB_true, ↓brB_false, ↓reduceIte, zA, zB, zC, zD, zE, zF, zG, zH, zI, reduceCtorEq]
          all_goals (try (rw [List.length_append]; rfl))
          all_goals (try (first | rfl | (simp; done)))
      ·
        refine awp_exit ?_
        have hkk : k = r.length := by omega
        subst hkk
        rw [List.take_length] at ho
        (try simp only [AThen, ABlk, reduceIte, zF]); refine hK2 _ ?_
        refine awp_seq' fun K hK => ?_
        refine awp_region tyOk tyPos [] rfl ?_
        simp only [push_cast, ↓brB_true, ↓brB_false, ↓reduceIte, zA, zB, zC, zD, zE, zF, zG, zH, zI, reduceCtorEq]
        repeat' apply And.intro
        all_goals try exact gB
        all_goals first | (refine hK _ ?_; clear hK K) | (simp only [push_cast]; done)
        refine awp_ret ?_
        (try simp only [AThen, ABlk])
        refine ⟨Or.inl rfl, ?_⟩
        simp only [RetOk, push_cast, ↓brB_true, ↓brB_false, ↓reduceIte, zA, zB, zC, zD, zE, zF, zG, zH, zI, reduceCtorEq]
        rw [nextV_yes (by with_reducible assumption)]
        subst ho
        all_goals first | rfl | exact ⟨rfl, rfl⟩ | (simp; done)
set_option maxRecDepth 20000 in
set_option maxHeartbeats 4000000 in
theorem visitPrio_fn (f : Fm) (hf : f.Ln 1048576) (r : List Int) (hr : r.length ≤ 1048576) (v : Int) (hv : visB f r = true) : Fn Try.prog tyT 75 [.agg (dFm f), .c (DI r), .c (.int .i64 v)] [.c (.int .i64 (prioV f r v))] := by
  have h1 := hf.names
  have h2 := hf.sets.1
  unfold LnI at h1
  have hrr : ∀ v, (gl f.sets v).length ≤ 1048576 := fun v => gl_le hf.sets v
  have hI := Index_fn r v hr
  have hx := ix_rg r v
  obtain ⟨m9, hm9⟩ : ∃ m9, m9 = (ixB r v + 1).toNat := ⟨_, rfl⟩
  have hsl := sortI_len (r.take m9)
  rw [List.length_take] at hsl
  have hkl : (r.take m9).length = m9 := by rw [List.length_take]; omega
  have hSo := Sort_fn (r.take m9) (by omega)
  have hH := hasSet_fn f h2 hrr (sortI (r.take m9)) (by omega)
  have hset := vis_set hv m9
  unfold dFm at hH
  unfold dFm
  refine Fn_of (fn := Try.f75) (ts := [6]) Try.func75 (by kernel_rfl) rfl rfl (by rw [Try.ntmps75]; exact Nat.le_of_ble_eq_true rfl) rfl (by simp only [szA, List.mem_cons, List.not_mem_nil, or_false, forall_eq_or_imp, forall_eq, VT.cells, szL]; try decide) ?_
  rw [Try.ntmps75]
  simp only [push_cast, ↓brB_true, ↓brB_false, ↓reduceIte, zA, zB, zC, zD, zE, zF, zG, zH, zI, reduceCtorEq]
  refine awp_seq' fun K hK => ?_
  refine awp_region tyOk tyPos [] rfl ?_
  simp only [push_cast, ↓brB_true, ↓brB_false, ↓reduceIte, zA, zB, zC, zD, zE, zF, zG, zH, zI, reduceCtorEq]
  repeat' apply And.intro
  all_goals try exact gB
  all_goals first | (refine hK _ ?_; clear hK K) | (simp only [push_cast]; done)
  refine awp_seq' fun K hK => ?_
  refine awp_region tyOk tyPos [] rfl ?_
  all_goals refine aops_cut 3 fun K9 hK9 => ?_
  all_goals simp only [push_cast, ↓brB_true, ↓brB_false, ↓reduceIte, zA, zB, zC, zD, zE, zF, zG, zH, zI, reduceCtorEq]
  all_goals repeat' (first | (apply brB_mk <;> (intro hg; (try simp only [push_cast] at hg))) | (refine ⟨_, hI, ?_⟩; simp only [push_cast, ↓brB_true, ↓brB_false, ↓reduceIte, zA, zB, zC, zD, zE, zF, zG, zH, zI, reduceCtorEq]) | apply And.intro | (intro hg; (try simp only [push_cast] at hg)))
  all_goals try exact gA
  all_goals first | (refine hK9 _ ?_; clear hK9 K9) | (simp only [push_cast]; done)
  all_goals simp only [push_cast, ↓brB_true, ↓brB_false, ↓reduceIte, zA, zB, zC, zD, zE, zF, zG, zH, zI, reduceCtorEq]
  all_goals repeat' (first | (apply brB_mk <;> (intro hg; (try simp only [push_cast] at hg))) | (refine ⟨_, hI, ?_⟩; simp only [push_cast, ↓brB_true, ↓brB_false, ↓reduceIte, zA, zB, zC, zD, zE, zF, zG, zH, zI, reduceCtorEq]) | apply And.intro | (intro hg; (try simp only [push_cast] at hg)))
  all_goals try exact gA
  all_goals first | (refine hK _ ?_; clear hK K) | (simp only [push_cast]; done)
  refine awp_seq' fun K hK => ?_
  refine awp_region tyOk tyPos [] rfl ?_
  simp only [push_cast, ↓brB_true, ↓brB_false, ↓reduceIte, zA, zB, zC, zD, zE, zF, zG, zH, zI, reduceCtorEq]
  repeat' apply And.intro
  all_goals try exact gB
  all_goals first | (refine hK _ ?_; clear hK K) | (simp only [push_cast]; done)
  rw [← hm9]
  (try rw [List.take_of_length_le (l := r.take m9) (by omega)])
  rw [show AV.sl 128 [] 0 m9 2 = AV.sl 128 [] 0 (r.take m9).length 2 from by rw [hkl]]
  refine awp_seq' fun K hK => ?_
  refine awp_regionG 20 [0] [(0, 2, dI (sortI (r.take m9)))] tyOk tyPos [] rfl ?_
  simp only [push_cast, ↓brB_true, ↓brB_false, ↓reduceIte, zA, zB, zC, zD, zE, zF, zG, zH, zI, reduceCtorEq]
  all_goals repeat' (first | (apply brB_mk <;> (intro hg; (try simp only [push_cast] at hg))) | (refine ⟨_, hSo, ?_⟩; simp only [push_cast, ↓brB_true, ↓brB_false, ↓reduceIte, zA, zB, zC, zD, zE, zF, zG, zH, zI, reduceCtorEq]) | apply And.intro | (intro hg; (try simp only [push_cast] at hg)))
  all_goals try exact gA
  all_goals first | (refine hK _ ?_; clear hK K) | (simp only [push_cast]; done)
  rw [show AV.sl 128 [] 0 (r.take m9).length 2 = AV.sl 128 [] 0 (sortI (r.take m9)).length 2 from by rw [sortI_len]]
  refine awp_seq' fun K hK => ?_
  refine awp_region tyOk tyPos [] rfl ?_
  simp only [push_cast, ↓brB_true, ↓brB_false, ↓reduceIte, zA, zB, zC, zD, zE, zF, zG, zH, zI, reduceCtorEq]
  repeat' apply And.intro
  all_goals try exact gB
  all_goals first | (refine hK _ ?_; clear hK K) | (simp only [push_cast]; done)
  refine awp_seq' fun K1 hK1 => ?_
  refine awp_seq' fun K hK => ?_
  refine awp_region tyOk tyPos [] rfl ?_
  simp only [push_cast, ↓brB_true, ↓brB_false, ↓reduceIte, zA, zB, zC, zD, zE, zF, zG, zH, zI, reduceCtorEq]
  repeat' apply And.intro
  all_goals try exact gB
  all_goals first | (refine hK _ ?_; clear hK K) | (simp only [push_cast]; done)
  refine awp_cond rfl (fun hc => ?_) (fun hc => ?_) <;> (try simp only [push_cast] at hc)
  ·
    refine awp_seq' fun K hK => ?_
    refine awp_region tyOk tyPos [] rfl ?_
    simp only [push_cast, ↓brB_true, ↓brB_false, ↓reduceIte, zA, zB, zC, zD, zE, zF, zG, zH, zI, reduceCtorEq]
    repeat' apply And.intro
    all_goals try exact gB
    all_goals first | (refine hK _ ?_; clear hK K) | (simp only [push_cast]; done)
    refine awp_seq' fun K2 hK2 => ?_
    refine awp_seq' fun K hK => ?_
    refine awp_region tyOk tyPos [] rfl ?_
    all_goals refine aops_cut 3 fun K9 hK9 => ?_
    all_goals simp only [push_cast, ↓brB_true, ↓brB_false, ↓reduceIte, zA, zB, zC, zD, zE, zF, zG, zH, zI, reduceCtorEq]
    all_goals repeat' (first | (apply brB_mk <;> (intro hg; (try simp only [push_cast] at hg))) | (refine ⟨_, hH, ?_⟩; simp only [push_cast, ↓brB_true, ↓brB_false, ↓reduceIte, zA, zB, zC, zD, zE, zF, zG, zH, zI, reduceCtorEq]) | apply And.intro | (intro hg; (try simp only [push_cast] at hg)))
    all_goals try exact gA
    all_goals first | (refine hK9 _ ?_; clear hK9 K9) | (simp only [push_cast]; done)
    all_goals simp only [push_cast, ↓brB_true, ↓brB_false, ↓reduceIte, zA, zB, zC, zD, zE, zF, zG, zH, zI, reduceCtorEq]
    all_goals repeat' (first | (apply brB_mk <;> (intro hg; (try simp only [push_cast] at hg))) | (refine ⟨_, hH, ?_⟩; simp only [push_cast, ↓brB_true, ↓brB_false, ↓reduceIte, zA, zB, zC, zD, zE, zF, zG, zH, zI, reduceCtorEq]) | apply And.intro | (intro hg; (try simp only [push_cast] at hg)))
    all_goals try exact gA
    all_goals first | (refine hK _ ?_; clear hK K) | (simp only [push_cast]; done)
    refine awp_cond rfl (fun hc => ?_) (fun hc => ?_) <;> (try simp only [push_cast] at hc)
    ·
      refine awp_seq' fun K hK => ?_
      refine awp_region tyOk tyPos [] rfl ?_
      simp only [push_cast, ↓brB_true, ↓brB_false, ↓reduceIte, zA, zB, zC, zD, zE, zF, zG, zH, zI, reduceCtorEq]
      repeat' apply And.intro
      all_goals try exact gB
      all_goals first | (refine hK _ ?_; clear hK K) | (simp only [push_cast]; done)
      refine awp_ret ?_
      (try simp only [AThen, ABlk])
      refine ⟨Or.inl rfl, ?_⟩
      simp only [RetOk, push_cast, ↓brB_true, ↓brB_false, ↓reduceIte, zA, zB, zC, zD, zE, zF, zG, zH, zI, reduceCtorEq]
      all_goals exact prioV_none0 (by omega) hm9 hset (by with_reducible assumption)
    ·
      refine awp_skip ?_
      (try simp only [AThen, ABlk, reduceIte, zF]); refine hK2 _ ?_
      refine awp_seq' fun K hK => ?_
      refine awp_region tyOk tyPos [] rfl ?_
      simp only [push_cast, ↓brB_true, ↓brB_false, ↓reduceIte, zA, zB, zC, zD, zE, zF, zG, zH, zI, reduceCtorEq]
      repeat' apply And.intro
      all_goals try exact gB
      all_goals first | (refine hK _ ?_; clear hK K) | (simp only [push_cast]; done)
      refine awp_ret ?_
      (try simp only [AThen, ABlk])
      refine ⟨Or.inl rfl, ?_⟩
      simp only [RetOk, push_cast, ↓brB_true, ↓brB_false, ↓reduceIte, zA, zB, zC, zD, zE, zF, zG, zH, zI, reduceCtorEq]
      all_goals exact prioV_none1 (by omega) hm9 hset (by with_reducible assumption)
  ·
    refine awp_skip ?_
    (try simp only [AThen, ABlk, reduceIte, zF]); refine hK1 _ ?_
    refine awp_seq' fun K3 hK3 => ?_
    refine awp_seq' fun K hK => ?_
    refine awp_region tyOk tyPos [] rfl ?_
    all_goals refine aops_cut 3 fun K9 hK9 => ?_
    all_goals simp only [push_cast, ↓brB_true, ↓brB_false, ↓reduceIte, zA, zB, zC, zD, zE, zF, zG, zH, zI, reduceCtorEq]
    all_goals repeat' (first | (apply brB_mk <;> (intro hg; (try simp only [push_cast] at hg))) | (refine ⟨_, hH, ?_⟩; simp only [push_cast, ↓brB_true, ↓brB_false, ↓reduceIte, zA, zB, zC, zD, zE, zF, zG, zH, zI, reduceCtorEq]) | apply And.intro | (intro hg; (try simp only [push_cast] at hg)))
    all_goals try exact gA
    all_goals first | (refine hK9 _ ?_; clear hK9 K9) | (simp only [push_cast]; done)
    all_goals simp only [push_cast, ↓brB_true, ↓brB_false, ↓reduceIte, zA, zB, zC, zD, zE, zF, zG, zH, zI, reduceCtorEq]
    all_goals repeat' (first | (apply brB_mk <;> (intro hg; (try simp only [push_cast] at hg))) | (refine ⟨_, hH, ?_⟩; simp only [push_cast, ↓brB_true, ↓brB_false, ↓reduceIte, zA, zB, zC, zD, zE, zF, zG, zH, zI, reduceCtorEq]) | apply And.intro | (intro hg; (try simp only [push_cast] at hg)))
    all_goals try exact gA
    all_goals first | (refine hK _ ?_; clear hK K) | (simp only [push_cast]; done)
    refine awp_cond rfl (fun hc => ?_) (fun hc => ?_) <;> (try simp only [push_cast] at hc)
    ·
      refine awp_region tyOk tyPos [] rfl ?_
      simp only [push_cast, ↓brB_true, ↓brB_false, ↓reduceIte, zA, zB, zC, zD, zE, zF, zG, zH, zI, reduceCtorEq]
      repeat' apply And.intro
      all_goals try exact gB
      (try simp only [AThen, ABlk, reduceIte, zF]); refine hK3 _ ?_
      refine awp_seq' fun K hK => ?_
      refine awp_region tyOk tyPos [] rfl ?_
      simp only [push_cast, ↓brB_true, ↓brB_false, ↓reduceIte, zA, zB, zC, zD, zE, zF, zG, zH, zI, reduceCtorEq]
      repeat' apply And.intro
      all_goals try exact gB
      all_goals first | (refine hK _ ?_; clear hK K) | (simp only [push_cast]; done)
      refine awp_ret ?_
      (try simp only [AThen, ABlk])
      refine ⟨Or.inl rfl, ?_⟩
      simp only [RetOk, push_cast, ↓brB_true, ↓brB_false, ↓reduceIte, zA, zB, zC, zD, zE, zF, zG, zH, zI, reduceCtorEq]
      all_goals first | exact prioV_some2 (by omega) hm9 hset (by with_reducible assumption) | exact prioV_some1 (by omega) hm9 hset (by with_reducible assumption)
    ·
      refine awp_skip ?_
      (try simp only [AThen, ABlk, reduceIte, zF]); refine hK3 _ ?_
      refine awp_seq' fun K hK => ?_
      refine awp_region tyOk tyPos [] rfl ?_
      simp only [push_cast, ↓brB_true, ↓brB_false, ↓reduceIte, zA, zB, zC, zD, zE, zF, zG, zH, zI, reduceCtorEq]
      repeat' apply And.intro
      all_goals try exact gB
      all_goals first | (refine hK _ ?_; clear hK K) | (simp only [push_cast]; done)
      refine awp_ret ?_
      (try simp only [AThen, ABlk])
      refine ⟨Or.inl rfl, ?_⟩
      simp only [RetOk, push_cast, ↓brB_true, ↓brB_false, ↓reduceIte, zA, zB, zC, zD, zE, zF, zG, zH, zI, reduceCtorEq]
      all_goals first | exact prioV_some2 (by omega) hm9 hset (by with_reducible assumption) | exact prioV_some1 (by omega) hm9 hset (by with_reducible assumption)
theorem prioV_at {f : Fm} {r : List Int} {v : Int} {k : Nat} (hk : k < r.length) (h : ∀ j, j < k → ¬ gi r j = v) (he : gi r k = v) : prioV f r v = 2 * k + (if oneB f.sets (meetI f.names (r.take (k + 1))) then 2 else 1) := by
  have hf : fidx r v = k := fidx_at hk h he
  unfold prioV
  rw [hasB_fidx, hf, decide_eq_true hk]
  rfl
theorem prioV_none {f : Fm} {r : List Int} {v : Int} (h : ∀ j, j < r.length → ¬ gi r j = v) : prioV f r v = if oneB f.sets [] then 0 else 1 := by
  unfold prioV
  rw [hasB_fidx, fidx_none h, decide_eq_false (by omega)]
  rfl
set_option maxRecDepth 20000 in
set_option maxHeartbeats 4000000 in
theorem l18Prio_fn (f : Fm) (hf : f.Ln 1048576) (r : List Int) (hr : r.length ≤ 1048576) (v : Int) : Fn Try.prog tyT 68 [.agg (dFm f), .c (DI r), .c (.int .i64 v)] [.c (.int .i64 (prioV f r v))] := by
  have h1 := hf.names
  have h2 := hf.sets.1
  unfold LnI at h1
  have hrr : ∀ v, (gl f.sets v).length ≤ 1048576 := fun v => gl_le hf.sets v
  have hO := fun k => l18Of_fn f.names (r.take k) h1 (by rw [List.length_take]; omega)
  have hH := fun t ht => l18One_fn f h2 hrr t ht
  unfold dFm at hH
  unfold dFm
  refine Fn_of (fn := Try.f68) (ts := [6]) Try.func68 (by kernel_rfl) rfl rfl (by rw [Try.ntmps68]; exact Nat.le_of_ble_eq_true rfl) rfl (by simp only [szA, List.mem_cons, List.not_mem_nil, or_false, forall_eq_or_imp, forall_eq, VT.cells, szL]; try decide) ?_
  rw [Try.ntmps68]
  simp only [push_cast, ↓brB_true, ↓brB_false, ↓reduceIte, zA, zB, zC, zD, zE, zF, zG, zH, zI, reduceCtorEq]
  refine awp_seq' fun K hK => ?_
  refine awp_region tyOk tyPos [] rfl ?_
  simp only [push_cast, ↓brB_true, ↓brB_false, ↓reduceIte, zA, zB, zC, zD, zE, zF, zG, zH, zI, reduceCtorEq]
  repeat' apply And.intro
  all_goals try exact gB
  all_goals first | (refine hK _ ?_; clear hK K) | (simp only [push_cast]; done)
  refine awp_seq' fun K1 hK1 => ?_
  refine awp_seq' fun K hK => ?_
  refine awp_region tyOk tyPos [] rfl ?_
  simp only [push_cast, ↓brB_true, ↓brB_false, ↓reduceIte, zA, zB, zC, zD, zE, zF, zG, zH, zI, reduceCtorEq]
  repeat' apply And.intro
  all_goals try exact gB
  all_goals first | (refine hK _ ?_; clear hK K) | (simp only [push_cast]; done)
  refine awp_block ?_
  refine awp_loopU [6,7,8,9,10,11,12,13,14,15,16,17,18,19,20,21,22,23,24,25,26,27,28,29,30,31,32,33,34] [] (fun (k : Nat) => [(7, .int .i64 k)]) (fun k => []) (fun k => []) (fun k => k ≤ r.length ∧ ∀ j, j < k → ¬ gi r j = v) (fun k => r.length - k) 0 ?_ ⟨by omega, fun j hj => by omega⟩ ?_
  ·
    refine cov_of rfl ?_ ?_ ?_ <;> simp only [covS, covL, push_cast, ↓brB_true, ↓brB_false, ↓reduceIte, zA, zB, zC, zD, zE, zF, zG, zH, zI, reduceCtorEq]
  · rintro k ⟨hk, hall⟩ KL0 hL0
    simp only [push_cast, ↓brB_true, ↓brB_false, ↓reduceIte, zA, zB, zC, zD, zE, zF, zG, zH, zI, reduceCtorEq]
    refine awp_seq' fun K2 hK2 => ?_
    refine awp_seq' fun K hK => ?_
    refine awp_region tyOk tyPos [] rfl ?_
    simp only [push_cast, ↓brB_true, ↓brB_false, ↓reduceIte, zA, zB, zC, zD, zE, zF, zG, zH, zI, reduceCtorEq]
    repeat' apply And.intro
    all_goals try exact gB
    all_goals first | (refine hK _ ?_; clear hK K) | (simp only [push_cast]; done)
    refine awp_cond rfl (fun hc => ?_) (fun hc => ?_) <;> (try simp only [push_cast] at hc)
    ·
      refine awp_skip ?_
      (try simp only [AThen, ABlk, reduceIte, zF]); refine hK2 _ ?_
      refine awp_seq' fun K3 hK3 => ?_
      refine awp_block ?_
      refine awp_seq' fun K hK => ?_
      refine awp_region tyOk tyPos [] rfl ?_
      simp only [push_cast, ↓brB_true, ↓brB_false, ↓reduceIte, zA, zB, zC, zD, zE, zF, zG, zH, zI, reduceCtorEq]
      repeat' apply And.intro
      all_goals try exact gB
      all_goals first | (refine hK _ ?_; clear hK K) | (simp only [push_cast]; done)
      refine awp_cond rfl (fun hc => ?_) (fun hc => ?_) <;> (try simp only [push_cast] at hc)
      ·
        refine awp_seq' fun K4 hK4 => ?_
        refine awp_seq' fun K hK => ?_
        refine awp_regionD1 false tyOk tyPos tyMix ?_ rfl ?_
        · kernel_rfl
        intro E hE
        all_goals refine lexF_cut 8 (by decide) fun K9 hK9 => ?_
        all_goals simp only [push_cast, ↓brB_true, ↓brB_false, ↓reduceIte, zA, zB, zC, zD, zE, zF, zG, zH, zI, reduceCtorEq]
        all_goals repeat' (first | (apply brB_mk <;> (intro hg; (try simp only [push_cast] at hg))) | (refine ⟨_, hO (k + 1), ?_⟩; simp only [push_cast, ↓brB_true, ↓brB_false, ↓reduceIte, zA, zB, zC, zD, zE, zF, zG, zH, zI, reduceCtorEq]) | apply And.intro | (intro hg; (try simp only [push_cast] at hg)))
        all_goals try exact gA
        all_goals first | (refine hK9 _ _ ?_; clear hK9 K9) | (simp only [push_cast]; done)
        all_goals refine lexF_cut 1 (by decide) fun K9 hK9 => ?_
        all_goals simp only [push_cast, ↓brB_true, ↓brB_false, ↓reduceIte, zA, zB, zC, zD, zE, zF, zG, zH, zI, reduceCtorEq]
        all_goals repeat' (first | (apply brB_mk <;> (intro hg; (try simp only [push_cast] at hg))) | (refine ⟨_, hH (meetI f.names (r.take (k + 1))) (Nat.le_trans (meetI_le _ _) h1), ?_⟩; simp only [push_cast, ↓brB_true, ↓brB_false, ↓reduceIte, zA, zB, zC, zD, zE, zF, zG, zH, zI, reduceCtorEq]) | apply And.intro | (intro hg; (try simp only [push_cast] at hg)))
        all_goals try exact gA
        all_goals first | (refine hK9 _ _ ?_; clear hK9 K9) | (simp only [push_cast]; done)
        all_goals simp only [push_cast, ↓brB_true, ↓brB_false, ↓reduceIte, zA, zB, zC, zD, zE, zF, zG, zH, zI, reduceCtorEq]
        all_goals repeat' (first | (apply brB_mk <;> (intro hg; (try simp only [push_cast] at hg))) | (refine ⟨_, hO (k + 1), ?_⟩; simp only [push_cast, ↓brB_true, ↓brB_false, ↓reduceIte, zA, zB, zC, zD, zE, zF, zG, zH, zI, reduceCtorEq]) | (refine ⟨_, hH (meetI f.names (r.take (k + 1))) (Nat.le_trans (meetI_le _ _) h1), ?_⟩; simp only [push_cast, ↓brB_true, ↓brB_false, ↓reduceIte, zA, zB, zC, zD, zE, zF, zG, zH, zI, reduceCtorEq]) | apply And.intro | (intro hg; (try simp only [push_cast] at hg)))
        all_goals first | exact gA | (refine hE _ _ ?_ ?_; kernel_rfl) | skip
        all_goals clear hE E
        all_goals first | (refine hK _ ?_; clear hK K) | (simp only [push_cast]; done)
        refine awp_cond rfl (fun hc => ?_) (fun hc => ?_) <;> (try simp only [push_cast] at hc)
        ·
          refine awp_seq' fun K hK => ?_
          refine awp_region tyOk tyPos [] rfl ?_
          simp only [push_cast, ↓brB_true, ↓brB_false, ↓reduceIte, zA, zB, zC, zD, zE, zF, zG, zH, zI, reduceCtorEq]
          repeat' apply And.intro
          all_goals try exact gB
          all_goals first | (refine hK _ ?_; clear hK K) | (simp only [push_cast]; done)
          refine awp_ret ?_
          (try simp only [AThen, ABlk])
          refine ⟨Or.inl rfl, ?_⟩
          simp only [RetOk, push_cast, ↓brB_true, ↓brB_false, ↓reduceIte, zA, zB, zC, zD, zE, zF, zG, zH, zI, reduceCtorEq]
          rw [prioV_at (k := k) (by omega) hall (by omega), show oneB f.sets (meetI f.names (r.take (k + 1))) = true from by with_reducible assumption]
          rfl
        ·
          refine awp_skip ?_
          (try simp only [AThen, ABlk, reduceIte, zF]); refine hK4 _ ?_
          refine awp_seq' fun K hK => ?_
          refine awp_region tyOk tyPos [] rfl ?_
          simp only [push_cast, ↓brB_true, ↓brB_false, ↓reduceIte, zA, zB, zC, zD, zE, zF, zG, zH, zI, reduceCtorEq]
          repeat' apply And.intro
          all_goals try exact gB
          all_goals first | (refine hK _ ?_; clear hK K) | (simp only [push_cast]; done)
          refine awp_ret ?_
          (try simp only [AThen, ABlk])
          refine ⟨Or.inl rfl, ?_⟩
          simp only [RetOk, push_cast, ↓brB_true, ↓brB_false, ↓reduceIte, zA, zB, zC, zD, zE, zF, zG, zH, zI, reduceCtorEq]
          rw [prioV_at (k := k) (by omega) hall (by omega), show oneB f.sets (meetI f.names (r.take (k + 1))) = false from by with_reducible assumption]
          rfl
      ·
        refine awp_skip ?_
        (try simp only [AThen, ABlk, reduceIte, zF]); refine hK3 _ ?_
        refine awp_region tyOk tyPos [] rfl ?_
        simp only [push_cast, ↓brB_true, ↓brB_false, ↓reduceIte, zA, zB, zC, zD, zE, zF, zG, zH, zI, reduceCtorEq]
        repeat' apply And.intro
        all_goals try exact gB
        refine hL0 _ ⟨k + 1, ⟨by omega, fun j hj => (by
            by_cases hjk : j = k
            · subst hjk; omega
            · exact hall j (by omega))⟩, by omega, ?_⟩
        refine cov_of rfl ?_ ?_ ?_ <;> simp only [covS, covL, push_cast, ↓brB_true, ↓brB_false, ↓reduceIte, zA, zB, zC, zD, zE, zF, zG, zH, zI, reduceCtorEq]
    ·
      refine awp_exit ?_
      (try simp only [AThen, ABlk, reduceIte, zF]); refine hK1 _ ?_
      refine awp_seq' fun K5 hK5 => ?_
      refine awp_seq' fun K hK => ?_
      refine awp_region tyOk tyPos [] rfl ?_
      all_goals refine aops_cut 3 fun K9 hK9 => ?_
      all_goals simp only [push_cast, ↓brB_true, ↓brB_false, ↓reduceIte, zA, zB, zC, zD, zE, zF, zG, zH, zI, reduceCtorEq]
      all_goals repeat' (first | (apply brB_mk <;> (intro hg; (try simp only [push_cast] at hg))) | (refine ⟨_, hH [] (by simp), ?_⟩; simp only [push_cast, ↓brB_true, ↓brB_false, ↓reduceIte, zA, zB, zC, zD, zE, zF, zG, zH, zI, reduceCtorEq]) | apply And.intro | (intro hg; (try simp only [push_cast] at hg)))
      all_goals try exact gA
      all_goals first | (refine hK9 _ ?_; clear hK9 K9) | (simp only [push_cast]; done)
      all_goals simp only [push_cast, ↓brB_true, ↓brB_false, ↓reduceIte, zA, zB, zC, zD, zE, zF, zG, zH, zI, reduceCtorEq]
      all_goals repeat' (first | (apply brB_mk <;> (intro hg; (try simp only [push_cast] at hg))) | (refine ⟨_, hH [] (by simp), ?_⟩; simp only [push_cast, ↓brB_true, ↓brB_false, ↓reduceIte, zA, zB, zC, zD, zE, zF, zG, zH, zI, reduceCtorEq]) | apply And.intro | (intro hg; (try simp only [push_cast] at hg)))
      all_goals try exact gA
      all_goals first | (refine hK _ ?_; clear hK K) | (simp only [push_cast]; done)
      refine awp_cond rfl (fun hc => ?_) (fun hc => ?_) <;> (try simp only [push_cast] at hc)
      ·
        refine awp_seq' fun K hK => ?_
        refine awp_region tyOk tyPos [] rfl ?_
        simp only [push_cast, ↓brB_true, ↓brB_false, ↓reduceIte, zA, zB, zC, zD, zE, zF, zG, zH, zI, reduceCtorEq]
        repeat' apply And.intro
        all_goals try exact gB
        all_goals first | (refine hK _ ?_; clear hK K) | (simp only [push_cast]; done)
        refine awp_ret ?_
        (try simp only [AThen, ABlk])
        refine ⟨Or.inl rfl, ?_⟩
        simp only [RetOk, push_cast, ↓brB_true, ↓brB_false, ↓reduceIte, zA, zB, zC, zD, zE, zF, zG, zH, zI, reduceCtorEq]
        rw [prioV_none (fun j hj => hall j (by omega)), show oneB f.sets [] = true from by with_reducible assumption]
        rfl
      ·
        refine awp_skip ?_
        (try simp only [AThen, ABlk, reduceIte, zF]); refine hK5 _ ?_
        refine awp_seq' fun K hK => ?_
        refine awp_region tyOk tyPos [] rfl ?_
        simp only [push_cast, ↓brB_true, ↓brB_false, ↓reduceIte, zA, zB, zC, zD, zE, zF, zG, zH, zI, reduceCtorEq]
        repeat' apply And.intro
        all_goals try exact gB
        all_goals first | (refine hK _ ?_; clear hK K) | (simp only [push_cast]; done)
        refine awp_ret ?_
        (try simp only [AThen, ABlk])
        refine ⟨Or.inl rfl, ?_⟩
        simp only [RetOk, push_cast, ↓brB_true, ↓brB_false, ↓reduceIte, zA, zB, zC, zD, zE, zF, zG, zH, zI, reduceCtorEq]
        rw [prioV_none (fun j hj => hall j (by omega)), show oneB f.sets [] = false from by with_reducible assumption]
        rfl
end Go.Proofs.Ytklconkoamoabaa

namespace Go.Proofs.Ytklconkoamoabaa
open Nat renaming reduceMod → zA, reduceMul → zB, reduceDiv → zC, reduceAdd → zD, reduceSub → zE, reduceEqDiff → zF, reduceBEq → zG, reduceLT → zH, reduceLeDiff → zI
open Go.RowKit
set_option linter.unusedVariables false
set_option linter.unusedSimpArgs false

def sameQ (u : Int) (r : List Int) (p : Plc) : Bool := decide (p.at_ = u) && decide (p.record = r)
theorem sameQ_no1 {u : Int} {r : List Int} {p : Plc} (h : ¬ p.at_ = u) : sameQ u r p = false := by unfold sameQ; rw [decide_eq_false h]; rfl
theorem sameQ_no2 {u : Int} {r : List Int} {p : Plc} (h : ¬ p.record = r) : sameQ u r p = false := by unfold sameQ; rw [decide_eq_false h, Bool.and_false]
theorem sameQ_yes {u : Int} {r : List Int} {p : Plc} (h : p.at_ = u) (h2 : p.record = r) : sameQ u r p = true := by unfold sameQ; rw [decide_eq_true h, decide_eq_true h2]; rfl
def ixQ (p : Plc → Bool) (ps : List Plc) : Int := if ps.findIdx p < ps.length then ps.findIdx p else -1
theorem gq_get {ps : List Plc} {k : Nat} (h : k < ps.length) : ps[k] = gq ps k := by
  have := gq_lt h
  rw [List.getElem?_eq_getElem h] at this
  exact Option.some.inj this
theorem ixQ_found {p : Plc → Bool} {ps : List Plc} {k : Nat} (hk : k < ps.length) (h : ∀ j, j < k → p (gq ps j) = false) (hp : p (gq ps k) = true) : ixQ p ps = k := by
  have e : ps.findIdx p = k := by
    rw [List.findIdx_eq hk]
    refine ⟨by rw [gq_get hk]; exact hp, fun j hj => ?_⟩
    rw [gq_get (by omega)]
    exact h j hj
  unfold ixQ
  rw [e, if_pos hk]
theorem ixQ_none {p : Plc → Bool} {ps : List Plc} (h : ∀ j, j < ps.length → p (gq ps j) = false) : ixQ p ps = -1 := by
  have e : ¬ ps.findIdx p < ps.length := fun h9 => by
    have h1 := List.findIdx_getElem (w := h9)
    rw [gq_get h9, h _ h9] at h1
    cases h1
  unfold ixQ
  rw [if_neg e]
theorem ins_sort {ys : List Int} {x : Int} {k : Nat} (hk : k ≤ ys.length) (hs : ys.Pairwise (· ≤ ·)) (h1 : ∀ j, k ≤ j → j < ys.length → gi ys j > x) (h2 : k = 0 ∨ gi ys (k - 1) ≤ x) : (ys.take k ++ [x] ++ ys.drop k).Pairwise (· ≤ ·) := by
  have hg : ∀ {j} (hj : j < ys.length), ys[j] = gi ys j := fun {j} hj => by
    have h3 := gi_lt (xs := ys) (k := j) hj
    rw [List.getElem?_eq_getElem hj] at h3
    exact Option.some.inj h3
  have hle : ∀ y ∈ ys.take k, y ≤ x := fun y hy => by
    obtain ⟨j, hj, rfl⟩ := List.mem_iff_getElem.1 hy
    rw [List.length_take] at hj
    rw [List.getElem_take]
    rcases h2 with h2 | h2
    · omega
    · rw [← hg (j := k - 1) (by omega)] at h2
      rcases Nat.lt_or_ge j (k - 1) with h | h
      · have := List.pairwise_iff_getElem.1 hs j (k - 1) (by omega) (by omega) h
        omega
      · have : j = k - 1 := by omega
        subst this; exact h2
  have hgt : ∀ y ∈ ys.drop k, x ≤ y := fun y hy => by
    obtain ⟨j, hj, rfl⟩ := List.mem_iff_getElem.1 hy
    rw [List.length_drop] at hj
    rw [List.getElem_drop, hg (by omega)]
    have := h1 (k + j) (by omega) (by omega)
    omega
  rw [List.append_assoc, List.pairwise_append]
  refine ⟨hs.sublist (List.take_sublist _ _), ?_, fun y hy z hz => ?_⟩
  · rw [List.singleton_append, List.pairwise_cons]
    exact ⟨hgt, hs.sublist (List.drop_sublist _ _)⟩
  · rw [List.singleton_append, List.mem_cons] at hz
    rcases hz with rfl | hz
    · exact hle y hy
    · have := hle y hy; have := hgt z hz; omega
theorem ins_is {xs : List Int} {i k : Nat} (hi : i < xs.length) (hk : k ≤ i) (h1 : ∀ j, k ≤ j → j < i → gi (sortI (xs.take i)) j > gi xs i) (h2 : k = 0 ∨ gi (sortI (xs.take i)) (k - 1) ≤ gi xs i) : (sortI (xs.take i)).take k ++ [gi xs i] ++ (sortI (xs.take i)).drop k = sortI (xs.take (i + 1)) := by
  have hl : (sortI (xs.take i)).length = i := by rw [sortI_len, List.length_take]; omega
  refine perm_sorted_eq ?_ (ins_sort (by omega) (sortI_sorted _) (fun j h3 h4 => h1 j h3 (by omega)) h2) (sortI_sorted _)
  refine List.Perm.trans ?_ (sortI_perm _).symm
  rw [tk_snocI hi]
  refine List.Perm.trans (l₂ := [gi xs i] ++ ((sortI (xs.take i)).take k ++ (sortI (xs.take i)).drop k)) ?_ ?_
  · rw [← List.append_assoc]
    exact List.Perm.append_right _ List.perm_append_comm
  · rw [List.take_append_drop]
    exact List.perm_append_comm.trans (List.Perm.append_right _ (sortI_perm _))
theorem ins_cov {xs : List Int} {i k : Nat} (hi : i < xs.length) (hk : k ≤ i) (h1 : ∀ j, k ≤ j → j < i → gi (sortI (xs.take i)) j > gi xs i) (h2 : k = 0 ∨ gi (sortI (xs.take i)) (k - 1) ≤ gi xs i) : List.take (k + 1) (List.take k (List.take k (sortI (xs.take i))) ++ [gi xs i]) ++ List.take (i - k) (List.drop k (sortI (xs.take i))) = sortI (xs.take (i + 1)) := by
  have hl : (sortI (xs.take i)).length = i := by rw [sortI_len, List.length_take]; omega
  rw [List.take_take, Nat.min_self, List.take_of_length_le (l := (sortI (xs.take i)).take k ++ [gi xs i]) (by rw [List.length_append, List.length_take, List.length_singleton]; omega), List.take_of_length_le (l := (sortI (xs.take i)).drop k) (by rw [List.length_drop]; omega)]
  exact ins_is hi hk h1 h2
set_option maxRecDepth 20000 in
set_option maxHeartbeats 4000000 in
theorem l17Find_fn (ps : List Plc) (ha : QLn 1048576 ps) (u : Int) (r : List Int) (hr : r.length ≤ 1048576) : Fn Try.prog tyT 66 [.c (.lst 78 (dPls ps)), .c (.int .i64 u), .c (DI r)] [.c (.int .i64 (ixQ (sameQ u r) ps))] := by
  have hl := ha.1
  have hgl := fun k => gq_le ha k
  refine Fn_of (fn := Try.f66) (ts := [6]) Try.func66 (by kernel_rfl) rfl rfl (by rw [Try.ntmps66]; exact Nat.le_of_ble_eq_true rfl) rfl (by simp only [szA, List.mem_cons, List.not_mem_nil, or_false, forall_eq_or_imp, forall_eq, VT.cells, szL]; try decide) ?_
  rw [Try.ntmps66]
  simp only [push_cast, ↓brB_true, ↓brB_false, ↓reduceIte, zA, zB, zC, zD, zE, zF, zG, zH, zI, reduceCtorEq]
  refine awp_seq' fun K hK => ?_
  refine awp_region tyOk tyPos [] rfl ?_
  all_goals simp only [push_cast, ↓brB_true, ↓brB_false, ↓reduceIte, zA, zB, zC, zD, zE, zF, zG, zH, zI, reduceCtorEq]
  all_goals repeat' (first | (apply brB_mk <;> (intro hg; (try simp only [push_cast] at hg))) | apply And.intro | (intro hg; (try simp only [push_cast] at hg)))
  all_goals first | exact gA | (exact getE_dPls (by omega)) | skip
  all_goals first | (refine hK _ ?_; clear hK K) | (simp only [push_cast]; done)
  refine awp_seq' fun K1 hK1 => ?_
  refine awp_seq' fun K hK => ?_
  refine awp_region tyOk tyPos [] rfl ?_
  all_goals simp only [push_cast, ↓brB_true, ↓brB_false, ↓reduceIte, zA, zB, zC, zD, zE, zF, zG, zH, zI, reduceCtorEq]
  all_goals repeat' (first | (apply brB_mk <;> (intro hg; (try simp only [push_cast] at hg))) | apply And.intro | (intro hg; (try simp only [push_cast] at hg)))
  all_goals first | exact gA | (exact getE_dPls (by omega)) | skip
  all_goals first | (refine hK _ ?_; clear hK K) | (simp only [push_cast]; done)
  refine awp_block ?_
  refine awp_loopU [6,7,8,9,10,11,12,13,14,15,16,17,18,19,20,21,22,23,24,25,26,27,28,29,30] [] (fun (k : Nat) => [(7, .int .i64 k)]) (fun k => []) (fun k => []) (fun k => k ≤ ps.length ∧ ∀ j, j < k → sameQ u r (gq ps j) = false) (fun k => ps.length - k) 0 ?_ ⟨by omega, fun j hj => by omega⟩ ?_
  ·
    refine cov_of rfl ?_ ?_ ?_ <;> simp only [covS, covL, push_cast, ↓brB_true, ↓brB_false, ↓reduceIte, zA, zB, zC, zD, zE, zF, zG, zH, zI, reduceCtorEq]
  · rintro k ⟨hk, hall⟩ KL0 hL0
    simp only [push_cast, ↓brB_true, ↓brB_false, ↓reduceIte, zA, zB, zC, zD, zE, zF, zG, zH, zI, reduceCtorEq]
    refine awp_seq' fun K2 hK2 => ?_
    refine awp_seq' fun K hK => ?_
    refine awp_region tyOk tyPos [] rfl ?_
    all_goals simp only [push_cast, ↓brB_true, ↓brB_false, ↓reduceIte, zA, zB, zC, zD, zE, zF, zG, zH, zI, reduceCtorEq]
    all_goals repeat' (first | (apply brB_mk <;> (intro hg; (try simp only [push_cast] at hg))) | apply And.intro | (intro hg; (try simp only [push_cast] at hg)))
    all_goals first | exact gA | (exact getE_dPls (by omega)) | skip
    all_goals first | (refine hK _ ?_; clear hK K) | (simp only [push_cast]; done)
    refine awp_cond rfl (fun hc => ?_) (fun hc => ?_) <;> (try simp only [push_cast] at hc)
    ·
      refine awp_skip ?_
      (try simp only [AThen, ABlk, reduceIte, zF]); refine hK2 _ ?_
      refine awp_seq' fun K3 hK3 => ?_
      refine awp_block ?_
      refine awp_seq' fun K hK => ?_
      refine awp_regionN false tyOk tyPos ?_ rfl ?_
      · kernel_rfl
      all_goals refine seqE_cut 15 fun K9 hK9 => ?_
      all_goals simp only [push_cast, ↓brB_true, ↓brB_false, ↓reduceIte, zA, zB, zC, zD, zE, zF, zG, zH, zI, reduceCtorEq]
      all_goals repeat' (first | (apply brB_mk <;> (intro hg; (try simp only [push_cast] at hg))) | (refine ⟨_, l16SameInts_fn (gq ps k).record r (hgl k) hr, ?_⟩; simp only [push_cast, ↓brB_true, ↓brB_false, ↓reduceIte, zA, zB, zC, zD, zE, zF, zG, zH, zI, reduceCtorEq]) | apply And.intro | (intro hg; (try simp only [push_cast] at hg)))
      all_goals first | exact gA | (exact getE_dPls (by omega)) | skip
      all_goals first | (refine hK9 _ ?_; clear hK9 K9) | (simp only [push_cast]; done)
      all_goals simp only [push_cast, ↓brB_true, ↓brB_false, ↓reduceIte, zA, zB, zC, zD, zE, zF, zG, zH, zI, reduceCtorEq]
      all_goals repeat' (first | (apply brB_mk <;> (intro hg; (try simp only [push_cast] at hg))) | (refine ⟨_, l16SameInts_fn (gq ps k).record r (hgl k) hr, ?_⟩; simp only [push_cast, ↓brB_true, ↓brB_false, ↓reduceIte, zA, zB, zC, zD, zE, zF, zG, zH, zI, reduceCtorEq]) | apply And.intro | (intro hg; (try simp only [push_cast] at hg)))
      all_goals first | exact gA | (exact getE_dPls (by omega)) | skip
      all_goals first | (refine hK _ ?_; clear hK K) | (simp only [push_cast]; done)
      all_goals refine awp_cond rfl (fun hc => ?_) (fun hc => ?_)
      all_goals (first | (cases hc; done) | skip)
      all_goals (try simp only [push_cast] at hc)
      all_goals first
        | (
            refine awp_skip ?_
            (try simp only [AThen, ABlk, reduceIte, zF]); refine hK3 _ ?_
            refine awp_region tyOk tyPos [] rfl ?_
            all_goals simp only [push_cast, ↓brB_true, ↓brB_false, ↓reduceIte, zA, zB, zC, zD, zE, zF, zG, zH, zI, reduceCtorEq]
            all_goals repeat' (first | (apply brB_mk <;> (intro hg; (try simp only [push_cast] at hg))) | apply And.intro | (intro hg; (try simp only [push_cast] at hg)))
            all_goals first | exact gA | (exact getE_dPls (by omega)) | skip
            refine hL0 _ ⟨k + 1, ⟨by omega, fun j hj => (by
                by_cases hjk : j = k
                · subst hjk; first | exact sameQ_no1 (by omega) | exact sameQ_no2 (by simpa using hc) | exact sameQ_no2 (by with_reducible assumption)
                · exact hall j (by omega))⟩, by omega, ?_⟩
            refine cov_of rfl ?_ ?_ ?_ <;> simp only [covS, covL, push_cast, ↓brB_true, ↓brB_false, ↓reduceIte, zA, zB, zC, zD, zE, zF, zG, zH, zI, reduceCtorEq]
            done)
        | (
            refine awp_seq' fun K hK => ?_
            refine awp_region tyOk tyPos [] rfl ?_
            all_goals simp only [push_cast, ↓brB_true, ↓brB_false, ↓reduceIte, zA, zB, zC, zD, zE, zF, zG, zH, zI, reduceCtorEq]
            all_goals repeat' (first | (apply brB_mk <;> (intro hg; (try simp only [push_cast] at hg))) | apply And.intro | (intro hg; (try simp only [push_cast] at hg)))
            all_goals first | exact gA | (exact getE_dPls (by omega)) | skip
            all_goals first | (refine hK _ ?_; clear hK K) | (simp only [push_cast]; done)
            refine awp_ret ?_
            (try simp only [AThen, ABlk])
            refine ⟨Or.inl rfl, ?_⟩
            simp only [RetOk, push_cast, ↓brB_true, ↓brB_false, ↓reduceIte, zA, zB, zC, zD, zE, zF, zG, zH, zI, reduceCtorEq]
            exact (ixQ_found (k := k) (by omega) hall (sameQ_yes (by omega) (by with_reducible assumption))).symm
            done)
    ·
      refine awp_exit ?_
      (try simp only [AThen, ABlk, reduceIte, zF]); refine hK1 _ ?_
      refine awp_seq' fun K hK => ?_
      refine awp_region tyOk tyPos [] rfl ?_
      all_goals simp only [push_cast, ↓brB_true, ↓brB_false, ↓reduceIte, zA, zB, zC, zD, zE, zF, zG, zH, zI, reduceCtorEq]
      all_goals repeat' (first | (apply brB_mk <;> (intro hg; (try simp only [push_cast] at hg))) | apply And.intro | (intro hg; (try simp only [push_cast] at hg)))
      all_goals first | exact gA | (exact getE_dPls (by omega)) | skip
      all_goals first | (refine hK _ ?_; clear hK K) | (simp only [push_cast]; done)
      refine awp_ret ?_
      (try simp only [AThen, ABlk])
      refine ⟨Or.inl rfl, ?_⟩
      simp only [RetOk, push_cast, ↓brB_true, ↓brB_false, ↓reduceIte, zA, zB, zC, zD, zE, zF, zG, zH, zI, reduceCtorEq]
      all_goals first | (rw [ixQ_none fun j hj => hall j (by omega)]; done) | (rw [ixQ_none fun j hj => hall j (by omega)]; rfl)
set_option maxRecDepth 20000 in
set_option maxHeartbeats 4000000 in
theorem l17Sorted_fn (xs : List Int) (hx : xs.length ≤ 1048576) : Fn Try.prog tyT 67 [.c (DI xs)] [.c (DI (sortI xs))] := by
  refine Fn_of (fn := Try.f67) (ts := [2]) Try.func67 (by kernel_rfl) rfl rfl (by rw [Try.ntmps67]; exact Nat.le_of_ble_eq_true rfl) rfl (by simp only [szA, List.mem_cons, List.not_mem_nil, or_false, forall_eq_or_imp, forall_eq, VT.cells, szL]; try decide) ?_
  rw [Try.ntmps67]
  simp only [push_cast, ↓brB_true, ↓brB_false, ↓reduceIte, zA, zB, zC, zD, zE, zF, zG, zH, zI, reduceCtorEq]
  refine awp_seq' fun K hK => ?_
  refine awp_region tyOk tyPos [] rfl ?_
  simp only [push_cast, ↓brB_true, ↓brB_false, ↓reduceIte, zA, zB, zC, zD, zE, zF, zG, zH, zI, reduceCtorEq]
  repeat' apply And.intro
  all_goals try exact gB
  all_goals first | (refine hK _ ?_; clear hK K) | (simp only [push_cast]; done)
  refine awp_seq' fun K hK => ?_
  refine awp_region tyOk tyPos [] rfl ?_
  simp only [push_cast, ↓brB_true, ↓brB_false, ↓reduceIte, zA, zB, zC, zD, zE, zF, zG, zH, zI, reduceCtorEq]
  repeat' apply And.intro
  all_goals try exact gB
  all_goals first | (refine hK _ ?_; clear hK K) | (simp only [push_cast]; done)
  refine awp_seq' fun K1 hK1 => ?_
  refine awp_seq' fun K hK => ?_
  refine awp_region tyOk tyPos [] rfl ?_
  simp only [push_cast, ↓brB_true, ↓brB_false, ↓reduceIte, zA, zB, zC, zD, zE, zF, zG, zH, zI, reduceCtorEq]
  repeat' apply And.intro
  all_goals try exact gB
  all_goals first | (refine hK _ ?_; clear hK K) | (simp only [push_cast]; done)
  refine awp_block ?_
  refine awp_loopU [3,4,5,6,8,9,10,11,12,13,14,15,16,17,18,19,20,21,22,23,24,25,26,27,28,29,30,31,32,33,34,35,36,37,38,39,40,41,42,43,44,45,46,47,48] [48] (fun (i : Nat) => [(4, .int .i64 i), (3, .sl 48 [] 0 i 2)]) (fun i => []) (fun i => [(48, ⟨.ex, 2, dI (sortI (xs.take i)), none⟩)]) (fun i => i ≤ xs.length) (fun i => xs.length - i) 0 ?_ (by omega) ?_
  ·
    rw [List.take_zero, sortI_nil, show dI ([] : List Int) = [] from rfl]
    refine cov_of rfl ?_ ?_ ?_ <;> simp only [covS, covL, push_cast, ↓brB_true, ↓brB_false, ↓reduceIte, zA, zB, zC, zD, zE, zF, zG, zH, zI, reduceCtorEq]
  · rintro i hi KL0 hL0
    have hol : (sortI (xs.take i)).length = i := by rw [sortI_len, List.length_take]; omega
    simp only [push_cast, ↓brB_true, ↓brB_false, ↓reduceIte, zA, zB, zC, zD, zE, zF, zG, zH, zI, reduceCtorEq]
    refine awp_seq' fun K2 hK2 => ?_
    refine awp_seq' fun K hK => ?_
    refine awp_region tyOk tyPos [] rfl ?_
    simp only [push_cast, ↓brB_true, ↓brB_false, ↓reduceIte, zA, zB, zC, zD, zE, zF, zG, zH, zI, reduceCtorEq]
    repeat' apply And.intro
    all_goals try exact gB
    all_goals first | (refine hK _ ?_; clear hK K) | (simp only [push_cast]; done)
    refine awp_cond rfl (fun hc => ?_) (fun hc => ?_) <;> (try simp only [push_cast] at hc)
    ·
      refine awp_skip ?_
      (try simp only [AThen, ABlk, reduceIte, zF]); refine hK2 _ ?_
      refine awp_seq' fun K3 hK3 => ?_
      refine awp_block ?_
      refine awp_seq' fun K hK => ?_
      refine awp_region tyOk tyPos [] rfl ?_
      simp only [push_cast, ↓brB_true, ↓brB_false, ↓reduceIte, zA, zB, zC, zD, zE, zF, zG, zH, zI, reduceCtorEq]
      repeat' apply And.intro
      all_goals try exact gB
      all_goals first | (refine hK _ ?_; clear hK K) | (simp only [push_cast]; done)
      refine awp_seq' fun K4 hK4 => ?_
      refine awp_block ?_
      refine awp_loopU [5,16,17,18,19,20,21,22,23,24,25,26,27,28,29,30,31] [] (fun (k : Nat) => [(5, .int .i64 k)]) (fun k => []) (fun k => []) (fun k => k ≤ i ∧ ∀ j, k ≤ j → j < i → gi (sortI (xs.take i)) j > gi xs i) (fun k => k) i ?_ ⟨by omega, fun j h8 h9 => by omega⟩ ?_
      ·
        refine cov_of rfl ?_ ?_ ?_ <;> simp only [covS, covL, push_cast, ↓brB_true, ↓brB_false, ↓reduceIte, zA, zB, zC, zD, zE, zF, zG, zH, zI, reduceCtorEq]
      · rintro k ⟨hk, hall⟩ KL1 hL1
        simp only [push_cast, ↓brB_true, ↓brB_false, ↓reduceIte, zA, zB, zC, zD, zE, zF, zG, zH, zI, reduceCtorEq]
        refine awp_seq' fun K5 hK5 => ?_
        refine awp_seq' fun K hK => ?_
        refine awp_regionD1 false tyOk tyPos tyMix ?_ rfl ?_
        · kernel_rfl
        intro E hE
        all_goals simp only [push_cast, ↓brB_true, ↓brB_false, ↓reduceIte, zA, zB, zC, zD, zE, zF, zG, zH, zI, reduceCtorEq]
        all_goals repeat' (first | (apply brB_mk <;> (intro hg; (try simp only [push_cast] at hg))) | apply And.intro | (intro hg; (try simp only [push_cast] at hg)))
        all_goals first | exact gA | (refine hE _ _ ?_ ?_; kernel_rfl) | skip
        all_goals clear hE E
        all_goals first | (refine hK _ ?_; clear hK K) | (simp only [push_cast]; done)
        all_goals refine awp_cond rfl (fun hc => ?_) (fun hc => ?_)
        all_goals (first | (cases hc; done) | skip)
        all_goals (try simp only [push_cast] at hc)
        all_goals try (
            refine awp_exit ?_
            (try simp only [AThen, ABlk, reduceIte, zF]); refine hK4 _ ?_
            refine awp_seq' fun K hK => ?_
            refine awp_region tyOk tyPos [] rfl ?_
            simp only [push_cast, ↓brB_true, ↓brB_false, ↓reduceIte, zA, zB, zC, zD, zE, zF, zG, zH, zI, reduceCtorEq]
            repeat' apply And.intro
            all_goals try exact gB
            all_goals first | (refine hK _ ?_; clear hK K) | (simp only [push_cast]; done)
            refine awp_seq' fun K hK => ?_
            refine awp_region tyOk tyPos [] rfl ?_
            simp only [push_cast, ↓brB_true, ↓brB_false, ↓reduceIte, zA, zB, zC, zD, zE, zF, zG, zH, zI, reduceCtorEq]
            repeat' apply And.intro
            all_goals try exact gB
            all_goals first | (refine hK _ ?_; clear hK K) | (simp only [push_cast]; done)
            refine awp_region tyOk tyPos [] rfl ?_
            simp only [push_cast, ↓brB_true, ↓brB_false, ↓reduceIte, zA, zB, zC, zD, zE, zF, zG, zH, zI, reduceCtorEq]
            repeat' apply And.intro
            all_goals try exact gB
            (try simp only [AThen, ABlk, reduceIte, zF]); refine hK3 _ ?_
            refine awp_region tyOk tyPos [] rfl ?_
            simp only [push_cast, ↓brB_true, ↓brB_false, ↓reduceIte, zA, zB, zC, zD, zE, zF, zG, zH, zI, reduceCtorEq]
            repeat' apply And.intro
            all_goals try exact gB
            refine hL0 _ ⟨i + 1, by omega, by omega, ?_⟩
            refine cov_of rfl ?_ ?_ ?_ <;> simp only [covS, covL, push_cast, ↓brB_true, ↓brB_false, ↓reduceIte, zA, zB, zC, zD, zE, zF, zG, zH, zI, reduceCtorEq]
            all_goals first | (rw [show k + 1 + (i - k) = i + 1 from by omega]; done) | (rw [ins_cov (by omega) (by omega) (fun j h8 h9 => hall j h8 h9) (by first | exact .inl (by omega) | exact .inr (by omega))]; done) | skip
            done)
        refine awp_skip ?_
        (try simp only [AThen, ABlk, reduceIte, zF]); refine hK5 _ ?_
        refine awp_block ?_
        refine awp_region tyOk tyPos [] rfl ?_
        simp only [push_cast, ↓brB_true, ↓brB_false, ↓reduceIte, zA, zB, zC, zD, zE, zF, zG, zH, zI, reduceCtorEq]
        repeat' apply And.intro
        all_goals try exact gB
        refine hL1 _ ⟨k - 1, ⟨by omega, fun j h8 h9 => (by
            by_cases hjk : j = k - 1
            · subst hjk; omega
            · exact hall j (by omega) h9)⟩, by omega, ?_⟩
        refine cov_of rfl ?_ ?_ ?_ <;> simp only [covS, covL, push_cast, ↓brB_true, ↓brB_false, ↓reduceIte, zA, zB, zC, zD, zE, zF, zG, zH, zI, reduceCtorEq]
        all_goals (try (refine congrArg (AV.int .i64) ?_; omega))
    ·
      refine awp_exit ?_
      have hii : i = xs.length := by omega
      subst hii
      rw [List.take_length]
      (try simp only [AThen, ABlk, reduceIte, zF]); refine hK1 _ ?_
      refine awp_seq' fun K hK => ?_
      refine awp_region tyOk tyPos [] rfl ?_
      simp only [push_cast, ↓brB_true, ↓brB_false, ↓reduceIte, zA, zB, zC, zD, zE, zF, zG, zH, zI, reduceCtorEq]
      repeat' apply And.intro
      all_goals try exact gB
      all_goals first | (refine hK _ ?_; clear hK K) | (simp only [push_cast]; done)
      refine awp_ret ?_
      (try simp only [AThen, ABlk])
      refine ⟨Or.inl rfl, ?_⟩
      simp only [RetOk, push_cast, ↓brB_true, ↓brB_false, ↓reduceIte, zA, zB, zC, zD, zE, zF, zG, zH, zI, reduceCtorEq]
      all_goals first | rfl | exact ⟨rfl, rfl⟩ | exact ⟨rfl, (sortI_len xs).symm⟩ | (simp [sortI_len]; done)
end Go.Proofs.Ytklconkoamoabaa

namespace Go.Proofs.Ytklconkoamoabaa
open Go.RowKit
set_option linter.unusedVariables false
set_option linter.unusedSimpArgs false

def stepR (r : List Int) (s : List Plc × List Int) (u : Int) : List Plc × List Int := if ixQ (sameQ u r) s.1 < 0 then (s.1 ++ [⟨u, r⟩], s.2 ++ [(s.1.length : Int)]) else (s.1, s.2 ++ [ixQ (sameQ u r) s.1])
def rowT (r us : List Int) (ps : List Plc) (k : Nat) : List Plc × List Int := (us.take k).foldl (stepR r) (ps, [])
theorem rowT_0 (r us : List Int) (ps : List Plc) : rowT r us ps 0 = (ps, []) := rfl
theorem rowT_s {r us : List Int} {ps : List Plc} {k : Nat} (h : k < us.length) : rowT r us ps (k + 1) = stepR r (rowT r us ps k) (gi us k) := by
  unfold rowT
  rw [tk_snocI h, List.foldl_append]
  rfl
theorem rowT_new {r us : List Int} {ps : List Plc} {k : Nat} (h : k < us.length) (h2 : ixQ (sameQ (gi us k) r) (rowT r us ps k).1 < 0) : rowT r us ps (k + 1) = ((rowT r us ps k).1 ++ [⟨gi us k, r⟩], (rowT r us ps k).2 ++ [((rowT r us ps k).1.length : Int)]) := by
  rw [rowT_s h]; unfold stepR; rw [if_pos h2]
theorem rowT_old {r us : List Int} {ps : List Plc} {k : Nat} (h : k < us.length) (h2 : ¬ ixQ (sameQ (gi us k) r) (rowT r us ps k).1 < 0) : rowT r us ps (k + 1) = ((rowT r us ps k).1, (rowT r us ps k).2 ++ [ixQ (sameQ (gi us k) r) (rowT r us ps k).1]) := by
  rw [rowT_s h]; unfold stepR; rw [if_neg h2]
theorem rowT_len {r us : List Int} {ps : List Plc} : ∀ {k : Nat}, k ≤ us.length → (rowT r us ps k).2.length = k ∧ ps.length ≤ (rowT r us ps k).1.length ∧ (rowT r us ps k).1.length ≤ ps.length + k
  | 0, _ => by rw [rowT_0]; exact ⟨rfl, Nat.le_refl _, Nat.le_refl _⟩
  | k + 1, h => by
    have h1 := rowT_len (r := r) (us := us) (ps := ps) (k := k) (by omega)
    by_cases h2 : ixQ (sameQ (gi us k) r) (rowT r us ps k).1 < 0
    · rw [rowT_new (by omega) h2]; simp only [List.length_append, List.length_cons, List.length_nil]; omega
    · rw [rowT_old (by omega) h2]; simp only [List.length_append, List.length_cons, List.length_nil]; omega
theorem rowT_mono {r us : List Int} {ps : List Plc} {k j : Nat} (hkj : k ≤ j) (hj : j ≤ us.length) : (rowT r us ps k).1.length ≤ (rowT r us ps j).1.length := by
  induction j with
  | zero => have : k = 0 := by omega
            subst this; exact Nat.le_refl _
  | succ j ih =>
    rcases Nat.lt_or_ge j k with h | h
    · have : k = j + 1 := by omega
      subst this; exact Nat.le_refl _
    · have h1 := ih h (by omega)
      by_cases h2 : ixQ (sameQ (gi us j) r) (rowT r us ps j).1 < 0
      · rw [rowT_new (by omega) h2]; simp only [List.length_append, List.length_cons, List.length_nil]; omega
      · rw [rowT_old (by omega) h2]; exact h1
theorem ixQ_rg (p : Plc → Bool) (ps : List Plc) : -1 ≤ ixQ p ps ∧ ixQ p ps < ps.length := by unfold ixQ; split <;> omega
theorem rowT_all {r us : List Int} {ps : List Plc} {O : Plc → Prop} (h0 : ∀ p ∈ ps, O p) (h1 : ∀ u ∈ us, O ⟨u, r⟩) : ∀ {k : Nat}, k ≤ us.length → ∀ p ∈ (rowT r us ps k).1, O p
  | 0, _, p, hp => h0 p hp
  | k + 1, h, p, hp => by
    by_cases h2 : ixQ (sameQ (gi us k) r) (rowT r us ps k).1 < 0
    · rw [rowT_new (by omega) h2, List.mem_append] at hp
      rcases hp with hp | hp
      · exact rowT_all h0 h1 (by omega) p hp
      · rw [List.mem_singleton] at hp; subst hp; exact h1 _ (gi_mem (by omega))
    · rw [rowT_old (by omega) h2] at hp
      exact rowT_all h0 h1 (by omega) p hp
section
variable (us rc : Plc → List Int) (p0 : Plc)
def stQ : Nat → List Plc
  | 0 => [p0]
  | i + 1 => if i < (stQ i).length then (rowT (rc (gq (stQ i) i)) (us (gq (stQ i) i)) (stQ i) (us (gq (stQ i) i)).length).1 else stQ i
def rowQ (i k : Nat) : List Plc × List Int := rowT (rc (gq (stQ us rc p0 i) i)) (us (gq (stQ us rc p0 i) i)) (stQ us rc p0 i) k
def nxQ (i : Nat) : List Int := sortI (rowQ us rc p0 i (us (gq (stQ us rc p0 i) i)).length).2
def plQ (i : Nat) : Plc := gq (stQ us rc p0 i) i
def okQ : Bool := decide ((stQ us rc p0 257).length ≤ 256)
end
variable {us rc : Plc → List Int} {p0 : Plc}
theorem stQ_s {i : Nat} (h : i < (stQ us rc p0 i).length) : stQ us rc p0 (i + 1) = (rowQ us rc p0 i (us (plQ us rc p0 i)).length).1 := by
  show (if i < (stQ us rc p0 i).length then _ else _) = _
  rw [if_pos h]; rfl
theorem stQ_stay {i : Nat} (h : ¬ i < (stQ us rc p0 i).length) : stQ us rc p0 (i + 1) = stQ us rc p0 i := by
  show (if i < (stQ us rc p0 i).length then _ else _) = _
  rw [if_neg h]
theorem stQ_mono {i j : Nat} (h : i ≤ j) : (stQ us rc p0 i).length ≤ (stQ us rc p0 j).length := by
  induction j with
  | zero => have : i = 0 := by omega
            subst this; exact Nat.le_refl _
  | succ j ih =>
    rcases Nat.lt_or_ge j i with h1 | h1
    · have : i = j + 1 := by omega
      subst this; exact Nat.le_refl _
    · have h2 := ih h1
      by_cases h3 : j < (stQ us rc p0 j).length
      · rw [stQ_s h3]
        have := (rowT_len (r := rc (gq (stQ us rc p0 j) j)) (us := us (gq (stQ us rc p0 j) j)) (ps := stQ us rc p0 j) (Nat.le_refl _)).2.1
        exact Nat.le_trans h2 this
      · rw [stQ_stay h3]; exact h2
theorem stQ_stop {i : Nat} (h : ¬ i < (stQ us rc p0 i).length) {j : Nat} (hj : i ≤ j) : stQ us rc p0 j = stQ us rc p0 i := by
  induction j with
  | zero => have : i = 0 := by omega
            subst this; rfl
  | succ j ih =>
    rcases Nat.lt_or_ge j i with h1 | h1
    · have : i = j + 1 := by omega
      subst this; rfl
    · have h2 := ih h1
      rw [stQ_stay (by rw [h2]; omega), h2]
theorem okQ_end {i : Nat} (hi : i ≤ 256) (h : ¬ i < (stQ us rc p0 i).length) : okQ us rc p0 = true ∧ stQ us rc p0 257 = stQ us rc p0 i := by
  have h1 := stQ_stop h (j := 257) (by omega)
  unfold okQ
  rw [h1]
  exact ⟨decide_eq_true (by omega), rfl⟩
theorem okQ_no {i : Nat} (hi : i ≤ 256) (h : 256 < (stQ us rc p0 (i + 1)).length) : okQ us rc p0 = false := by
  have h1 := stQ_mono (us := us) (rc := rc) (p0 := p0) (i := i + 1) (j := 257) (by omega)
  unfold okQ
  exact decide_eq_false (by omega)
theorem okQ_no2 {i k : Nat} (hi : i ≤ 256) (hl : i < (stQ us rc p0 i).length) (hk : k < (us (plQ us rc p0 i)).length) (h2 : ixQ (sameQ (gi (us (plQ us rc p0 i)) k) (rc (plQ us rc p0 i))) (rowQ us rc p0 i k).1 < 0) (h : 256 ≤ (rowQ us rc p0 i k).1.length) : okQ us rc p0 = false := by
  refine okQ_no hi ?_
  rw [stQ_s hl]
  have h1 := rowT_mono (r := rc (plQ us rc p0 i)) (us := us (plQ us rc p0 i)) (ps := stQ us rc p0 i) (k := k + 1) (j := (us (plQ us rc p0 i)).length) (by omega) (Nat.le_refl _)
  have h3 := rowT_new (r := rc (plQ us rc p0 i)) (us := us (plQ us rc p0 i)) (ps := stQ us rc p0 i) hk h2
  rw [h3] at h1
  simp only [List.length_append, List.length_cons, List.length_nil] at h1
  have h4 : (rowT (rc (plQ us rc p0 i)) (us (plQ us rc p0 i)) (stQ us rc p0 i) k).1.length = (rowQ us rc p0 i k).1.length := rfl
  have h5 : (rowT (rc (plQ us rc p0 i)) (us (plQ us rc p0 i)) (stQ us rc p0 i) (us (plQ us rc p0 i)).length).1.length = (rowQ us rc p0 i (us (plQ us rc p0 i)).length).1.length := rfl
  omega
theorem stQ_all {O : Plc → Prop} (h0 : O p0) (h1 : ∀ p, O p → ∀ u ∈ us p, O ⟨u, rc p⟩) : ∀ i, ∀ p ∈ stQ us rc p0 i, O p
  | 0, p, hp => by rw [show stQ us rc p0 0 = [p0] from rfl, List.mem_singleton] at hp; subst hp; exact h0
  | i + 1, p, hp => by
    by_cases h : i < (stQ us rc p0 i).length
    · rw [stQ_s h] at hp
      refine rowT_all (O := O) (stQ_all h0 h1 i) (fun u hu => h1 _ (stQ_all h0 h1 i _ (gq_mem h)) u hu) (Nat.le_refl _) p hp
    · rw [stQ_stay h] at hp
      exact stQ_all h0 h1 i p hp
end Go.Proofs.Ytklconkoamoabaa
