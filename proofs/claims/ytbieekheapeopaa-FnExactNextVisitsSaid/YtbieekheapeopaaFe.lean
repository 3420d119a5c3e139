/- visits to named vertices: both sides -/
import Derived.Test.YtbieekheapeopaaFc
import Derived.Test.YtbieekheapeopaaSo
namespace Go.Proofs.Ytbieekheapeopaa
open Go.RowKit
set_option linter.unusedVariables false
set_option linter.unusedSimpArgs false

theorem perm_sorted_eq : ∀ {xs ys : List Int}, xs.Perm ys → xs.Pairwise (· ≤ ·) → ys.Pairwise (· ≤ ·) → xs = ys
  | [], ys, h, _, _ => (List.Perm.nil_eq h)
  | x :: xs, [], h, _, _ => by have := h.length_eq; simp at this
  | x :: xs, y :: ys, h, h1, h2 => by
    rw [List.pairwise_cons] at h1 h2
    have hx : x ∈ y :: ys := h.subset (by simp)
    have hy : y ∈ x :: xs := h.symm.subset (by simp)
    have e : x = y := by
      rw [List.mem_cons] at hx hy
      rcases hx with hx | hx
      · exact hx
      · rcases hy with hy | hy
        · exact hy.symm
        · have := h1.1 y hy; have := h2.1 x hx; omega
    subst e
    rw [perm_sorted_eq ((List.perm_cons x).1 h) h1.2 h2.2]
theorem perm_of_sub : ∀ {ns r : List Int}, ns.Nodup → (∀ x ∈ ns, x ∈ r) → r.length ≤ ns.length → ns.Perm r
  | [], r, _, _, h => by have : r = [] := List.eq_nil_of_length_eq_zero (by simpa using h); subst this; exact .refl _
  | a :: ns, r, hd, hs, h => by
    rw [List.nodup_cons] at hd
    have ha := hs a (by simp)
    have hp := List.perm_cons_erase ha
    refine List.Perm.trans ((List.perm_cons a).2 (perm_of_sub hd.2 (fun x hx => ?_) ?_)) hp.symm
    · have hne : x ≠ a := fun e => hd.1 (by rw [← e]; exact hx)
      exact (List.mem_erase_of_ne hne).2 (hs x (by simp [hx]))
    · rw [List.length_erase_of_mem ha]; simp only [List.length_cons] at h; omega
theorem pw_le {xs : List Int} (h : xs.Pairwise (· < ·)) : xs.Pairwise (· ≤ ·) := h.imp fun h => by omega
theorem pw_nodup {xs : List Int} (h : xs.Pairwise (· < ·)) : xs.Nodup := h.imp fun h => by omega
theorem sort_strict {xs : List Int} (h : xs.Nodup) : (sortI xs).Pairwise (· < ·) := by
  have h1 := sortI_sorted xs
  have h2 : (sortI xs).Nodup := (sortI_perm xs).nodup_iff.2 h
  unfold List.Nodup at h2
  exact (h1.and h2).imp fun h => by omega
def visB (f : Fm) (r : List Int) : Bool := famI f 256 && decide (sortI r = f.names)
theorem visB_no1 {f : Fm} {r : List Int} (h : famI f 256 = false) : visB f r = false := by unfold visB; rw [h]; rfl
theorem visB_is {f : Fm} {r : List Int} (h : famI f 256 = true) : visB f r = decide (sortI r = f.names) := by unfold visB; rw [h]; rfl
theorem vis_iff {f : Fm} {r : List Int} (h : famI f 256 = true) : sortI r = f.names ↔ r.length = f.names.length ∧ meetI f.names r = f.names := by
  have hs := set_pw (famI_names h).1
  constructor
  · intro e
    refine ⟨by rw [← e, sortI_len], ?_⟩
    unfold meetI
    rw [List.filter_eq_self]
    intro x hx
    rw [hasB_iff, ← (sortI_perm r).mem_iff, e]
    exact hx
  · rintro ⟨h1, h2⟩
    unfold meetI at h2
    rw [List.filter_eq_self] at h2
    have hp : f.names.Perm r := perm_of_sub (pw_nodup hs) (fun x hx => (hasB_iff _ _).1 (h2 x hx)) (by omega)
    exact perm_sorted_eq ((sortI_perm r).trans hp.symm) (sortI_sorted r) (pw_le hs)
theorem vis_no {f : Fm} {r : List Int} (h : ¬ r.length = f.names.length) : visB f r = false := by
  cases hf : famI f 256 with
  | false => exact visB_no1 hf
  | true => rw [visB_is hf]; exact decide_eq_false fun e => h ((vis_iff hf).1 e).1
theorem vis_dec {f : Fm} {r : List Int} (h : famI f 256 = true) (hl : r.length = f.names.length) : visB f r = decide (meetI f.names r = f.names) := by
  rw [visB_is h]
  exact decide_eq_decide.2 ⟨fun e => ((vis_iff h).1 e).2, fun e => (vis_iff h).2 ⟨hl, e⟩⟩
theorem vis_facts {f : Fm} {r : List Int} (h : visB f r = true) : famI f 256 = true ∧ sortI r = f.names ∧ r.length ≤ 4 ∧ r.Nodup ∧ ∀ x, x ∈ r ↔ x ∈ f.names := by
  unfold visB at h
  rw [Bool.and_eq_true, decide_eq_true_eq] at h
  obtain ⟨h1, h2⟩ := h
  have hn := famI_names h1
  refine ⟨h1, h2, by have := sortI_len r; rw [h2] at this; omega, ?_, fun x => ?_⟩
  · rw [← (sortI_perm r).nodup_iff, h2]; exact pw_nodup (set_pw hn.1)
  · rw [← (sortI_perm r).mem_iff, h2]
theorem vis_has {f : Fm} {r : List Int} (h : visB f r = true) (v : Int) : hasB f.names v = hasB r v := by
  have := (vis_facts h).2.2.2.2 v
  cases h1 : hasB f.names v <;> cases h2 : hasB r v <;> first | rfl | (have a := hasB_iff f.names v; have b := hasB_iff r v; rw [h1] at a; rw [h2] at b; simp_all)
theorem nodup_takeI {xs : List Int} (h : xs.Nodup) (k : Nat) : (xs.take k).Nodup := h.sublist (List.take_sublist _ _)
/-- The first few of the record, sorted, are what of the names is among them. -/
theorem vis_set {f : Fm} {r : List Int} (h : visB f r = true) (k : Nat) : sortI (r.take k) = meetI f.names (r.take k) := by
  obtain ⟨h1, h2, h3, h4, h5⟩ := vis_facts h
  refine sorted_ext (sort_strict (nodup_takeI h4 k)) ((set_pw (famI_names h1).1).filter _) fun x => ?_
  unfold meetI
  rw [(sortI_perm _).mem_iff, List.mem_filter, hasB_iff, ← h5]
  exact ⟨fun hm => ⟨List.mem_of_mem_take hm, hm⟩, fun hm => hm.2⟩
def rightB (f : Fm) (r : List Int) (v : Int) : Bool := visB f r && decide (0 ≤ v ∧ v ≤ 255)
theorem rightB_no1 {f : Fm} {r : List Int} {v : Int} (h : visB f r = false) : rightB f r v = false := by unfold rightB; rw [h]; rfl
theorem rightB_no2 {f : Fm} {r : List Int} {v : Int} (h : ¬ (0 ≤ v ∧ v ≤ 255)) : rightB f r v = false := by unfold rightB; rw [decide_eq_false h, Bool.and_false]
theorem rightB_yes {f : Fm} {r : List Int} {v : Int} (h : visB f r = true) (h2 : 0 ≤ v ∧ v ≤ 255) : rightB f r v = true := by unfold rightB; rw [h, decide_eq_true h2]; rfl
def nextV (r : List Int) (v : Int) : List Int := if hasB r v then v :: r.filter (fun x => !decide (x = v)) else r
theorem nextV_no {r : List Int} {v : Int} (h : hasB r v = false) : nextV r v = r := by unfold nextV; rw [h]; rfl
theorem nextV_yes {r : List Int} {v : Int} (h : hasB r v = true) : nextV r v = v :: r.filter (fun x => !decide (x = v)) := by unfold nextV; rw [h]; rfl
theorem nextV_le (r : List Int) (v : Int) : (nextV r v).length ≤ r.length + 1 := by
  unfold nextV
  split
  · simp only [List.length_cons]; have := List.length_filter_le (fun x => !decide (x = v)) r; omega
  · omega
def nextRes (f : Fm) (r : List Int) (v : Int) : List Int := if rightB f r v then nextV r v else []
theorem nextRes_no {f : Fm} {r : List Int} {v : Int} (h : rightB f r v = false) : nextRes f r v = [] := by unfold nextRes; rw [h]; rfl
theorem nextRes_yes {f : Fm} {r : List Int} {v : Int} (h : rightB f r v = true) : nextRes f r v = nextV r v := by unfold nextRes; rw [h]; rfl
theorem nextRes_len {f : Fm} {r : List Int} {v : Int} : LnI 1048576 (nextRes f r v) := by
  unfold LnI
  cases h : rightB f r v with
  | false => rw [nextRes_no h]; simp
  | true =>
    rw [nextRes_yes h]
    unfold rightB at h
    rw [Bool.and_eq_true] at h
    have := (vis_facts h.1).2.2.1
    have := nextV_le r v
    omega
/-- The priority of a visit. -/
def prioV (f : Fm) (r : List Int) (v : Int) : Int := if hasB r v then 2 * fidx r v + (if oneB f.sets (meetI f.names (r.take (fidx r v + 1))) then 2 else 1) else (if oneB f.sets [] then 0 else 1)
def prioRes (f : Fm) (r : List Int) (v : Int) : Int := if rightB f r v then prioV f r v else -1
theorem prioRes_no {f : Fm} {r : List Int} {v : Int} (h : rightB f r v = false) : prioRes f r v = -1 := by unfold prioRes; rw [h]; rfl
theorem prioRes_yes {f : Fm} {r : List Int} {v : Int} (h : rightB f r v = true) : prioRes f r v = prioV f r v := by unfold prioRes; rw [h]; rfl
theorem hasB_fidx {r : List Int} {v : Int} : hasB r v = decide (fidx r v < r.length) := rfl
theorem ix_rg (r : List Int) (v : Int) : -1 ≤ ixB r v ∧ ixB r v < r.length := by
  unfold ixB
  split <;> omega
theorem prioV_none0 {f : Fm} {r : List Int} {v : Int} {K : Nat} (h : ixB r v < 0) (hK : K = (ixB r v + 1).toNat) (hs : sortI (r.take K) = meetI f.names (r.take K)) (ho : oneB f.sets (sortI (r.take K)) = true) : (0 : Int) = prioV f r v := by
  have hx : ¬ fidx r v < r.length := fun h2 => by unfold ixB at h; rw [if_pos h2] at h; omega
  have : K = 0 := by have := (ix_rg r v).1; omega
  subst this
  rw [List.take_zero, sortI_nil] at ho
  unfold prioV
  rw [hasB_fidx, decide_eq_false hx, ho]
  rfl
theorem prioV_none1 {f : Fm} {r : List Int} {v : Int} {K : Nat} (h : ixB r v < 0) (hK : K = (ixB r v + 1).toNat) (hs : sortI (r.take K) = meetI f.names (r.take K)) (ho : oneB f.sets (sortI (r.take K)) = false) : (1 : Int) = prioV f r v := by
  have hx : ¬ fidx r v < r.length := fun h2 => by unfold ixB at h; rw [if_pos h2] at h; omega
  have : K = 0 := by have := (ix_rg r v).1; omega
  subst this
  rw [List.take_zero, sortI_nil] at ho
  unfold prioV
  rw [hasB_fidx, decide_eq_false hx, ho]
  rfl
theorem prioV_some2 {f : Fm} {r : List Int} {v : Int} {K : Nat} (h : ¬ ixB r v < 0) (hK : K = (ixB r v + 1).toNat) (hs : sortI (r.take K) = meetI f.names (r.take K)) (ho : oneB f.sets (sortI (r.take K)) = true) : 2 * ixB r v + 1 + 1 = prioV f r v := by
  have hx : fidx r v < r.length := by
    unfold ixB at h
    split at h
    · assumption
    · omega
  have hi : ixB r v = fidx r v := by unfold ixB; rw [if_pos hx]
  have : K = fidx r v + 1 := by omega
  subst this
  rw [hs] at ho
  unfold prioV
  rw [hasB_fidx, decide_eq_true hx, ho, hi]
  simp only [if_true]
  omega
theorem prioV_some1 {f : Fm} {r : List Int} {v : Int} {K : Nat} (h : ¬ ixB r v < 0) (hK : K = (ixB r v + 1).toNat) (hs : sortI (r.take K) = meetI f.names (r.take K)) (ho : oneB f.sets (sortI (r.take K)) = false) : 2 * ixB r v + 1 = prioV f r v := by
  have hx : fidx r v < r.length := by
    unfold ixB at h
    split at h
    · assumption
    · omega
  have hi : ixB r v = fidx r v := by unfold ixB; rw [if_pos hx]
  have : K = fidx r v + 1 := by omega
  subst this
  rw [hs] at ho
  unfold prioV
  rw [hasB_fidx, decide_eq_true hx, ho, hi]
  simp
set_option maxRecDepth 20000 in
set_option maxHeartbeats 4000000 in
theorem isVisits_fn (f : Fm) (hf : f.Ln 1048576) (r : List Int) (hr : r.length ≤ 1048576) : Fn Try.prog tyT 93 [.agg (dFm f), .c (DI r)] [.c (.bool (visB f r))] := by
  have h1 := hf.names
  have h2 := hf.sets.1
  unfold LnI at h1
  have hrr : ∀ v, (gl f.sets v).length ≤ 1048576 := fun v => gl_le hf.sets v
  have hA := isFamily_fn f hf 256
  have hE := Equal_fn (sortI r) f.names (by rw [sortI_len]; exact hr) h1
  have hSo := Sort_fn r hr
  unfold dFm at hA
  unfold dFm
  refine Fn_of (fn := Try.f93) (ts := [4]) Try.func93 (by kernel_rfl) rfl rfl (by rw [Try.ntmps93]; exact Nat.le_of_ble_eq_true rfl) rfl (by simp only [szA, List.mem_cons, List.not_mem_nil, or_false, forall_eq_or_imp, forall_eq, VT.cells, szL]; try decide) ?_
  rw [Try.ntmps93]
  simp only [push_cast, ↓brB_true, ↓brB_false, ↓reduceIte, Nat.reduceMod, Nat.reduceMul, Nat.reduceDiv, Nat.reduceAdd, Nat.reduceSub, Nat.reduceEqDiff, Nat.reduceBEq, Nat.reduceLT, Nat.reduceLeDiff, reduceCtorEq]
  refine awp_seq' fun K hK => ?_
  refine awp_region tyOk tyPos [] rfl ?_
  simp only [push_cast, ↓brB_true, ↓brB_false, ↓reduceIte, Nat.reduceMod, Nat.reduceMul, Nat.reduceDiv, Nat.reduceAdd, Nat.reduceSub, Nat.reduceEqDiff, Nat.reduceBEq, Nat.reduceLT, Nat.reduceLeDiff, reduceCtorEq]
  repeat' apply And.intro
  all_goals first | exact True.intro | exact rfl | omega | with_reducible assumption | (simp only [List.length_set, List.length_append, List.length_replicate, List.length_cons, List.length_nil]; omega) | skip
  all_goals first | (refine hK _ ?_; clear hK K) | (simp only [push_cast]; done)
  refine awp_seq' fun K hK => ?_
  refine awp_region tyOk tyPos [] rfl ?_
  simp only [push_cast, ↓brB_true, ↓brB_false, ↓reduceIte, Nat.reduceMod, Nat.reduceMul, Nat.reduceDiv, Nat.reduceAdd, Nat.reduceSub, Nat.reduceEqDiff, Nat.reduceBEq, Nat.reduceLT, Nat.reduceLeDiff, reduceCtorEq]
  repeat' apply And.intro
  all_goals first | exact True.intro | exact rfl | omega | with_reducible assumption | (simp only [List.length_set, List.length_append, List.length_replicate, List.length_cons, List.length_nil]; omega) | skip
  all_goals first | (refine hK _ ?_; clear hK K) | (simp only [push_cast]; done)
  (try rw [List.take_of_length_le (l := r) (Nat.le_refl _)])
  refine awp_seq' fun K hK => ?_
  refine awp_regionG 10 [0] [(0, 2, dI (sortI r))] tyOk tyPos [] rfl ?_
  simp only [push_cast, ↓brB_true, ↓brB_false, ↓reduceIte, Nat.reduceMod, Nat.reduceMul, Nat.reduceDiv, Nat.reduceAdd, Nat.reduceSub, Nat.reduceEqDiff, Nat.reduceBEq, Nat.reduceLT, Nat.reduceLeDiff, reduceCtorEq]
  all_goals repeat' (first | (apply brB_mk <;> (intro hg; (try simp only [push_cast] at hg))) | (refine ⟨_, hSo, ?_⟩; simp only [push_cast, ↓brB_true, ↓brB_false, ↓reduceIte, Nat.reduceMod, Nat.reduceMul, Nat.reduceDiv, Nat.reduceAdd, Nat.reduceSub, Nat.reduceEqDiff, Nat.reduceBEq, Nat.reduceLT, Nat.reduceLeDiff, reduceCtorEq]) | apply And.intro | (intro hg; (try simp only [push_cast] at hg)))
  all_goals first | exact True.intro | exact rfl | contradiction | omega | with_reducible assumption | skip
  all_goals first | (refine hK _ ?_; clear hK K) | (simp only [push_cast]; done)
  (try rw [show r.length = (sortI r).length from (sortI_len r).symm])
  refine awp_seq' fun K hK => ?_
  refine awp_regionN false tyOk tyPos ?_ rfl ?_
  · kernel_rfl
  all_goals refine seqE_cut 2 fun K9 hK9 => ?_
  all_goals simp only [push_cast, ↓brB_true, ↓brB_false, ↓reduceIte, Nat.reduceMod, Nat.reduceMul, Nat.reduceDiv, Nat.reduceAdd, Nat.reduceSub, Nat.reduceEqDiff, Nat.reduceBEq, Nat.reduceLT, Nat.reduceLeDiff, reduceCtorEq]
  all_goals repeat' (first | (apply brB_mk <;> (intro hg; (try simp only [push_cast] at hg))) | (refine ⟨_, hA, ?_⟩; simp only [push_cast, ↓brB_true, ↓brB_false, ↓reduceIte, Nat.reduceMod, Nat.reduceMul, Nat.reduceDiv, Nat.reduceAdd, Nat.reduceSub, Nat.reduceEqDiff, Nat.reduceBEq, Nat.reduceLT, Nat.reduceLeDiff, reduceCtorEq]) | (refine ⟨_, hE, ?_⟩; simp only [push_cast, ↓brB_true, ↓brB_false, ↓reduceIte, Nat.reduceMod, Nat.reduceMul, Nat.reduceDiv, Nat.reduceAdd, Nat.reduceSub, Nat.reduceEqDiff, Nat.reduceBEq, Nat.reduceLT, Nat.reduceLeDiff, reduceCtorEq]) | apply And.intro | (intro hg; (try simp only [push_cast] at hg)))
  all_goals first | exact True.intro | exact rfl | contradiction | omega | with_reducible assumption | skip
  all_goals first | (refine hK9 _ ?_; clear hK9 K9) | (simp only [push_cast]; done)
  all_goals refine seqE_cut 5 fun K9 hK9 => ?_
  all_goals simp only [push_cast, ↓brB_true, ↓brB_false, ↓reduceIte, Nat.reduceMod, Nat.reduceMul, Nat.reduceDiv, Nat.reduceAdd, Nat.reduceSub, Nat.reduceEqDiff, Nat.reduceBEq, Nat.reduceLT, Nat.reduceLeDiff, reduceCtorEq]
  all_goals repeat' (first | (apply brB_mk <;> (intro hg; (try simp only [push_cast] at hg))) | (refine ⟨_, hA, ?_⟩; simp only [push_cast, ↓brB_true, ↓brB_false, ↓reduceIte, Nat.reduceMod, Nat.reduceMul, Nat.reduceDiv, Nat.reduceAdd, Nat.reduceSub, Nat.reduceEqDiff, Nat.reduceBEq, Nat.reduceLT, Nat.reduceLeDiff, reduceCtorEq]) | (refine ⟨_, hE, ?_⟩; simp only [push_cast, ↓brB_true, ↓brB_false, ↓reduceIte, Nat.reduceMod, Nat.reduceMul, Nat.reduceDiv, Nat.reduceAdd, Nat.reduceSub, Nat.reduceEqDiff, Nat.reduceBEq, Nat.reduceLT, Nat.reduceLeDiff, reduceCtorEq]) | apply And.intro | (intro hg; (try simp only [push_cast] at hg)))
  all_goals first | exact True.intro | exact rfl | contradiction | omega | with_reducible assumption | skip
  all_goals first | (refine hK9 _ ?_; clear hK9 K9) | (simp only [push_cast]; done)
  all_goals simp only [push_cast, ↓brB_true, ↓brB_false, ↓reduceIte, Nat.reduceMod, Nat.reduceMul, Nat.reduceDiv, Nat.reduceAdd, Nat.reduceSub, Nat.reduceEqDiff, Nat.reduceBEq, Nat.reduceLT, Nat.reduceLeDiff, reduceCtorEq]
  all_goals repeat' (first | (apply brB_mk <;> (intro hg; (try simp only [push_cast] at hg))) | (refine ⟨_, hA, ?_⟩; simp only [push_cast, ↓brB_true, ↓brB_false, ↓reduceIte, Nat.reduceMod, Nat.reduceMul, Nat.reduceDiv, Nat.reduceAdd, Nat.reduceSub, Nat.reduceEqDiff, Nat.reduceBEq, Nat.reduceLT, Nat.reduceLeDiff, reduceCtorEq]) | (refine ⟨_, hE, ?_⟩; simp only [push_cast, ↓brB_true, ↓brB_false, ↓reduceIte, Nat.reduceMod, Nat.reduceMul, Nat.reduceDiv, Nat.reduceAdd, Nat.reduceSub, Nat.reduceEqDiff, Nat.reduceBEq, Nat.reduceLT, Nat.reduceLeDiff, reduceCtorEq]) | apply And.intro | (intro hg; (try simp only [push_cast] at hg)))
  all_goals first | exact True.intro | exact rfl | contradiction | omega | with_reducible assumption | skip
  all_goals first | (refine hK _ ?_; clear hK K) | (simp only [push_cast]; done)
  all_goals (
      refine awp_ret ?_
      (try simp only [AThen, ABlk])
      refine ⟨Or.inl rfl, ?_⟩
      simp only [RetOk, push_cast, ↓brB_true, ↓brB_false, ↓reduceIte, Nat.reduceMod, Nat.reduceMul, Nat.reduceDiv, Nat.reduceAdd, Nat.reduceSub, Nat.reduceEqDiff, Nat.reduceBEq, Nat.reduceLT, Nat.reduceLeDiff, reduceCtorEq]
      all_goals first | (rw [visB_is (by with_reducible assumption)]; done) | exact (visB_no1 (by with_reducible assumption)).symm | (symm; exact visB_is (by with_reducible assumption)))
set_option maxRecDepth 20000 in
set_option maxHeartbeats 4000000 in
theorem VisitsOkI_fn (f : Fm) (hf : f.Ln 1048576) (r : List Int) (hr : r.length ≤ 1048576) : Fn Try.prog tyT 27 [.agg (dFm f), .c (DI r)] [.c (.bool (visB f r))] := by
  have hA := isVisits_fn f hf r hr
  unfold dFm at hA
  unfold dFm
  refine Fn_of (fn := Try.f27) (ts := [4]) Try.func27 (by kernel_rfl) rfl rfl (by rw [Try.ntmps27]; exact Nat.le_of_ble_eq_true rfl) rfl (by simp only [szA, List.mem_cons, List.not_mem_nil, or_false, forall_eq_or_imp, forall_eq, VT.cells, szL]; try decide) ?_
  rw [Try.ntmps27]
  simp only [push_cast, ↓brB_true, ↓brB_false, ↓reduceIte, Nat.reduceMod, Nat.reduceMul, Nat.reduceDiv, Nat.reduceAdd, Nat.reduceSub, Nat.reduceEqDiff, Nat.reduceBEq, Nat.reduceLT, Nat.reduceLeDiff, reduceCtorEq]
  refine awp_seq' fun K hK => ?_
  refine awp_region tyOk tyPos [] rfl ?_
  simp only [push_cast, ↓brB_true, ↓brB_false, ↓reduceIte, Nat.reduceMod, Nat.reduceMul, Nat.reduceDiv, Nat.reduceAdd, Nat.reduceSub, Nat.reduceEqDiff, Nat.reduceBEq, Nat.reduceLT, Nat.reduceLeDiff, reduceCtorEq]
  repeat' apply And.intro
  all_goals first | exact True.intro | exact rfl | omega | with_reducible assumption | (simp only [List.length_set, List.length_append, List.length_replicate, List.length_cons, List.length_nil]; omega) | skip
  all_goals first | (refine hK _ ?_; clear hK K) | (simp only [push_cast]; done)
  refine awp_seq' fun K hK => ?_
  refine awp_region tyOk tyPos [] rfl ?_
  all_goals refine aops_cut 3 fun K9 hK9 => ?_
  all_goals simp only [push_cast, ↓brB_true, ↓brB_false, ↓reduceIte, Nat.reduceMod, Nat.reduceMul, Nat.reduceDiv, Nat.reduceAdd, Nat.reduceSub, Nat.reduceEqDiff, Nat.reduceBEq, Nat.reduceLT, Nat.reduceLeDiff, reduceCtorEq]
  all_goals repeat' (first | (apply brB_mk <;> (intro hg; (try simp only [push_cast] at hg))) | (refine ⟨_, hA, ?_⟩; simp only [push_cast, ↓brB_true, ↓brB_false, ↓reduceIte, Nat.reduceMod, Nat.reduceMul, Nat.reduceDiv, Nat.reduceAdd, Nat.reduceSub, Nat.reduceEqDiff, Nat.reduceBEq, Nat.reduceLT, Nat.reduceLeDiff, reduceCtorEq]) | apply And.intro | (intro hg; (try simp only [push_cast] at hg)))
  all_goals first | exact True.intro | exact rfl | contradiction | omega | with_reducible assumption | skip
  all_goals first | (refine hK9 _ ?_; clear hK9 K9) | (simp only [push_cast]; done)
  all_goals simp only [push_cast, ↓brB_true, ↓brB_false, ↓reduceIte, Nat.reduceMod, Nat.reduceMul, Nat.reduceDiv, Nat.reduceAdd, Nat.reduceSub, Nat.reduceEqDiff, Nat.reduceBEq, Nat.reduceLT, Nat.reduceLeDiff, reduceCtorEq]
  all_goals repeat' (first | (apply brB_mk <;> (intro hg; (try simp only [push_cast] at hg))) | (refine ⟨_, hA, ?_⟩; simp only [push_cast, ↓brB_true, ↓brB_false, ↓reduceIte, Nat.reduceMod, Nat.reduceMul, Nat.reduceDiv, Nat.reduceAdd, Nat.reduceSub, Nat.reduceEqDiff, Nat.reduceBEq, Nat.reduceLT, Nat.reduceLeDiff, reduceCtorEq]) | apply And.intro | (intro hg; (try simp only [push_cast] at hg)))
  all_goals first | exact True.intro | exact rfl | contradiction | omega | with_reducible assumption | skip
  all_goals first | (refine hK _ ?_; clear hK K) | (simp only [push_cast]; done)
  refine awp_ret ?_
  (try simp only [AThen, ABlk])
  refine ⟨Or.inl rfl, ?_⟩
  simp only [RetOk, push_cast, ↓brB_true, ↓brB_false, ↓reduceIte, Nat.reduceMod, Nat.reduceMul, Nat.reduceDiv, Nat.reduceAdd, Nat.reduceSub, Nat.reduceEqDiff, Nat.reduceBEq, Nat.reduceLT, Nat.reduceLeDiff, reduceCtorEq]
  all_goals first | rfl | (symm; with_reducible assumption)
set_option maxRecDepth 20000 in
set_option maxHeartbeats 4000000 in
theorem VisitsOkS_fn (f : Fm) (hf : f.Ln 1048576) (r : List Int) (hr : r.length ≤ 1048576) : Fn Try.prog tyT 26 [.agg (dFm f), .c (DI r)] [.c (.bool (visB f r))] := by
  have h1 := hf.names
  have h2 := hf.sets.1
  unfold LnI at h1
  have hrr : ∀ v, (gl f.sets v).length ≤ 1048576 := fun v => gl_le hf.sets v
  have hA := FamilyOkS_fn f hf 256
  rw [famB_256] at hA
  have hQ := l16SameInts_fn (meetI f.names r) f.names (Nat.le_trans (meetI_le _ _) h1) h1
  have hO := l18Of_fn f.names r h1 hr
  unfold dFm at hA
  unfold dFm
  refine Fn_of (fn := Try.f26) (ts := [4]) Try.func26 (by kernel_rfl) rfl rfl (by rw [Try.ntmps26]; exact Nat.le_of_ble_eq_true rfl) rfl (by simp only [szA, List.mem_cons, List.not_mem_nil, or_false, forall_eq_or_imp, forall_eq, VT.cells, szL]; try decide) ?_
  rw [Try.ntmps26]
  simp only [push_cast, ↓brB_true, ↓brB_false, ↓reduceIte, Nat.reduceMod, Nat.reduceMul, Nat.reduceDiv, Nat.reduceAdd, Nat.reduceSub, Nat.reduceEqDiff, Nat.reduceBEq, Nat.reduceLT, Nat.reduceLeDiff, reduceCtorEq]
  refine awp_seq' fun K hK => ?_
  refine awp_region tyOk tyPos [] rfl ?_
  simp only [push_cast, ↓brB_true, ↓brB_false, ↓reduceIte, Nat.reduceMod, Nat.reduceMul, Nat.reduceDiv, Nat.reduceAdd, Nat.reduceSub, Nat.reduceEqDiff, Nat.reduceBEq, Nat.reduceLT, Nat.reduceLeDiff, reduceCtorEq]
  repeat' apply And.intro
  all_goals first | exact True.intro | exact rfl | omega | with_reducible assumption | (simp only [List.length_set, List.length_append, List.length_replicate, List.length_cons, List.length_nil]; omega) | skip
  all_goals first | (refine hK _ ?_; clear hK K) | (simp only [push_cast]; done)
  refine awp_seq' fun K1 hK1 => ?_
  refine awp_seq' fun K hK => ?_
  refine awp_regionN false tyOk tyPos ?_ rfl ?_
  · kernel_rfl
  all_goals refine seqE_cut 2 fun K9 hK9 => ?_
  all_goals simp only [push_cast, ↓brB_true, ↓brB_false, ↓reduceIte, Nat.reduceMod, Nat.reduceMul, Nat.reduceDiv, Nat.reduceAdd, Nat.reduceSub, Nat.reduceEqDiff, Nat.reduceBEq, Nat.reduceLT, Nat.reduceLeDiff, reduceCtorEq]
  all_goals repeat' (first | (apply brB_mk <;> (intro hg; (try simp only [push_cast] at hg))) | (refine ⟨_, hA, ?_⟩; simp only [push_cast, ↓brB_true, ↓brB_false, ↓reduceIte, Nat.reduceMod, Nat.reduceMul, Nat.reduceDiv, Nat.reduceAdd, Nat.reduceSub, Nat.reduceEqDiff, Nat.reduceBEq, Nat.reduceLT, Nat.reduceLeDiff, reduceCtorEq]) | apply And.intro | (intro hg; (try simp only [push_cast] at hg)))
  all_goals first | exact True.intro | exact rfl | contradiction | omega | with_reducible assumption | skip
  all_goals first | (refine hK9 _ ?_; clear hK9 K9) | (simp only [push_cast]; done)
  all_goals simp only [push_cast, ↓brB_true, ↓brB_false, ↓reduceIte, Nat.reduceMod, Nat.reduceMul, Nat.reduceDiv, Nat.reduceAdd, Nat.reduceSub, Nat.reduceEqDiff, Nat.reduceBEq, Nat.reduceLT, Nat.reduceLeDiff, reduceCtorEq]
  all_goals repeat' (first | (apply brB_mk <;> (intro hg; (try simp only [push_cast] at hg))) | (refine ⟨_, hA, ?_⟩; simp only [push_cast, ↓brB_true, ↓brB_false, ↓reduceIte, Nat.reduceMod, Nat.reduceMul, Nat.reduceDiv, Nat.reduceAdd, Nat.reduceSub, Nat.reduceEqDiff, Nat.reduceBEq, Nat.reduceLT, Nat.reduceLeDiff, reduceCtorEq]) | apply And.intro | (intro hg; (try simp only [push_cast] at hg)))
  all_goals first | exact True.intro | exact rfl | contradiction | omega | with_reducible assumption | skip
  all_goals first | (refine hK _ ?_; clear hK K) | (simp only [push_cast]; done)
  all_goals refine awp_cond rfl (fun hc => ?_) (fun hc => ?_)
  all_goals (first | (cases hc; done) | skip)
  all_goals (try simp only [push_cast] at hc)
  all_goals try (
      refine awp_seq' fun K hK => ?_
      refine awp_region tyOk tyPos [] rfl ?_
      simp only [push_cast, ↓brB_true, ↓brB_false, ↓reduceIte, Nat.reduceMod, Nat.reduceMul, Nat.reduceDiv, Nat.reduceAdd, Nat.reduceSub, Nat.reduceEqDiff, Nat.reduceBEq, Nat.reduceLT, Nat.reduceLeDiff, reduceCtorEq]
      repeat' apply And.intro
      all_goals first | exact True.intro | exact rfl | omega | with_reducible assumption | (simp only [List.length_set, List.length_append, List.length_replicate, List.length_cons, List.length_nil]; omega) | skip
      all_goals first | (refine hK _ ?_; clear hK K) | (simp only [push_cast]; done)
      refine awp_ret ?_
      (try simp only [AThen, ABlk])
      refine ⟨Or.inl rfl, ?_⟩
      simp only [RetOk, push_cast, ↓brB_true, ↓brB_false, ↓reduceIte, Nat.reduceMod, Nat.reduceMul, Nat.reduceDiv, Nat.reduceAdd, Nat.reduceSub, Nat.reduceEqDiff, Nat.reduceBEq, Nat.reduceLT, Nat.reduceLeDiff, reduceCtorEq]
      all_goals first | exact (visB_no1 (by with_reducible assumption)).symm | exact (vis_no (by omega)).symm
      done)
  refine awp_skip ?_
  (try simp only [AThen, ABlk, reduceIte, Nat.reduceEqDiff]); refine hK1 _ ?_
  refine awp_seq' fun K hK => ?_
  refine awp_regionD1 false tyOk tyPos tyMix ?_ rfl ?_
  · kernel_rfl
  intro E hE
  all_goals refine lexF_cut 4 (by decide) fun K9 hK9 => ?_
  all_goals simp only [push_cast, ↓brB_true, ↓brB_false, ↓reduceIte, Nat.reduceMod, Nat.reduceMul, Nat.reduceDiv, Nat.reduceAdd, Nat.reduceSub, Nat.reduceEqDiff, Nat.reduceBEq, Nat.reduceLT, Nat.reduceLeDiff, reduceCtorEq]
  all_goals repeat' (first | (apply brB_mk <;> (intro hg; (try simp only [push_cast] at hg))) | (refine ⟨_, hO, ?_⟩; simp only [push_cast, ↓brB_true, ↓brB_false, ↓reduceIte, Nat.reduceMod, Nat.reduceMul, Nat.reduceDiv, Nat.reduceAdd, Nat.reduceSub, Nat.reduceEqDiff, Nat.reduceBEq, Nat.reduceLT, Nat.reduceLeDiff, reduceCtorEq]) | apply And.intro | (intro hg; (try simp only [push_cast] at hg)))
  all_goals first | exact True.intro | exact rfl | contradiction | omega | with_reducible assumption | skip
  all_goals first | (refine hK9 _ _ ?_; clear hK9 K9) | (simp only [push_cast]; done)
  all_goals refine lexF_cut 3 (by decide) fun K9 hK9 => ?_
  all_goals simp only [push_cast, ↓brB_true, ↓brB_false, ↓reduceIte, Nat.reduceMod, Nat.reduceMul, Nat.reduceDiv, Nat.reduceAdd, Nat.reduceSub, Nat.reduceEqDiff, Nat.reduceBEq, Nat.reduceLT, Nat.reduceLeDiff, reduceCtorEq]
  all_goals repeat' (first | (apply brB_mk <;> (intro hg; (try simp only [push_cast] at hg))) | (refine ⟨_, hQ, ?_⟩; simp only [push_cast, ↓brB_true, ↓brB_false, ↓reduceIte, Nat.reduceMod, Nat.reduceMul, Nat.reduceDiv, Nat.reduceAdd, Nat.reduceSub, Nat.reduceEqDiff, Nat.reduceBEq, Nat.reduceLT, Nat.reduceLeDiff, reduceCtorEq]) | apply And.intro | (intro hg; (try simp only [push_cast] at hg)))
  all_goals first | exact True.intro | exact rfl | contradiction | omega | with_reducible assumption | skip
  all_goals first | (refine hK9 _ _ ?_; clear hK9 K9) | (simp only [push_cast]; done)
  all_goals simp only [push_cast, ↓brB_true, ↓brB_false, ↓reduceIte, Nat.reduceMod, Nat.reduceMul, Nat.reduceDiv, Nat.reduceAdd, Nat.reduceSub, Nat.reduceEqDiff, Nat.reduceBEq, Nat.reduceLT, Nat.reduceLeDiff, reduceCtorEq]
  all_goals repeat' (first | (apply brB_mk <;> (intro hg; (try simp only [push_cast] at hg))) | (refine ⟨_, hO, ?_⟩; simp only [push_cast, ↓brB_true, ↓brB_false, ↓reduceIte, Nat.reduceMod, Nat.reduceMul, Nat.reduceDiv, Nat.reduceAdd, Nat.reduceSub, Nat.reduceEqDiff, Nat.reduceBEq, Nat.reduceLT, Nat.reduceLeDiff, reduceCtorEq]) | (refine ⟨_, hQ, ?_⟩; simp only [push_cast, ↓brB_true, ↓brB_false, ↓reduceIte, Nat.reduceMod, Nat.reduceMul, Nat.reduceDiv, Nat.reduceAdd, Nat.reduceSub, Nat.reduceEqDiff, Nat.reduceBEq, Nat.reduceLT, Nat.reduceLeDiff, reduceCtorEq]) | apply And.intro | (intro hg; (try simp only [push_cast] at hg)))
  all_goals first | exact True.intro | exact rfl | contradiction | omega | with_reducible assumption | (refine hE _ _ ?_ ?_; kernel_rfl) | skip
  all_goals clear hE E
  all_goals first | (refine hK _ ?_; clear hK K) | (simp only [push_cast]; done)
  refine awp_ret ?_
  (try simp only [AThen, ABlk])
  refine ⟨Or.inl rfl, ?_⟩
  simp only [RetOk, push_cast, ↓brB_true, ↓brB_false, ↓reduceIte, Nat.reduceMod, Nat.reduceMul, Nat.reduceDiv, Nat.reduceAdd, Nat.reduceSub, Nat.reduceEqDiff, Nat.reduceBEq, Nat.reduceLT, Nat.reduceLeDiff, reduceCtorEq]
  all_goals first | (rw [vis_dec (by with_reducible assumption) (by omega)]; done) | (symm; exact vis_dec (by with_reducible assumption) (by omega))
set_option maxRecDepth 20000 in
set_option maxHeartbeats 4000000 in
theorem lessInOrder_fn (r : List Int) (hr : r.length ≤ 1048576) (v : Int) : Fn Try.prog tyT 145 [.c (DI r), .c (.int .i64 v)] [.c (DI (r.filter fun x => !decide (x = v)))] := by
  refine Fn_of (fn := Try.f145) (ts := [4]) Try.func145 (by kernel_rfl) rfl rfl (by rw [Try.ntmps145]; exact Nat.le_of_ble_eq_true rfl) rfl (by simp only [szA, List.mem_cons, List.not_mem_nil, or_false, forall_eq_or_imp, forall_eq, VT.cells, szL]; try decide) ?_
  rw [Try.ntmps145]
  simp only [push_cast, ↓brB_true, ↓brB_false, ↓reduceIte, Nat.reduceMod, Nat.reduceMul, Nat.reduceDiv, Nat.reduceAdd, Nat.reduceSub, Nat.reduceEqDiff, Nat.reduceBEq, Nat.reduceLT, Nat.reduceLeDiff, reduceCtorEq]
  refine awp_seq' fun K hK => ?_
  refine awp_region tyOk tyPos [] rfl ?_
  simp only [push_cast, ↓brB_true, ↓brB_false, ↓reduceIte, Nat.reduceMod, Nat.reduceMul, Nat.reduceDiv, Nat.reduceAdd, Nat.reduceSub, Nat.reduceEqDiff, Nat.reduceBEq, Nat.reduceLT, Nat.reduceLeDiff, reduceCtorEq]
  repeat' apply And.intro
  all_goals first | exact True.intro | exact rfl | omega | with_reducible assumption | (simp only [List.length_set, List.length_append, List.length_replicate, List.length_cons, List.length_nil]; omega) | skip
  all_goals first | (refine hK _ ?_; clear hK K) | (simp only [push_cast]; done)
  refine awp_seq' fun K hK => ?_
  refine awp_region tyOk tyPos [] rfl ?_
  simp only [push_cast, ↓brB_true, ↓brB_false, ↓reduceIte, Nat.reduceMod, Nat.reduceMul, Nat.reduceDiv, Nat.reduceAdd, Nat.reduceSub, Nat.reduceEqDiff, Nat.reduceBEq, Nat.reduceLT, Nat.reduceLeDiff, reduceCtorEq]
  repeat' apply And.intro
  all_goals first | exact True.intro | exact rfl | omega | with_reducible assumption | (simp only [List.length_set, List.length_append, List.length_replicate, List.length_cons, List.length_nil]; omega) | skip
  all_goals first | (refine hK _ ?_; clear hK K) | (simp only [push_cast]; done)
  refine awp_seq' fun K1 hK1 => ?_
  refine awp_seq' fun K hK => ?_
  refine awp_region tyOk tyPos [] rfl ?_
  simp only [push_cast, ↓brB_true, ↓brB_false, ↓reduceIte, Nat.reduceMod, Nat.reduceMul, Nat.reduceDiv, Nat.reduceAdd, Nat.reduceSub, Nat.reduceEqDiff, Nat.reduceBEq, Nat.reduceLT, Nat.reduceLeDiff, reduceCtorEq]
  repeat' apply And.intro
  all_goals first | exact True.intro | exact rfl | omega | with_reducible assumption | (simp only [List.length_set, List.length_append, List.length_replicate, List.length_cons, List.length_nil]; omega) | skip
  all_goals first | (refine hK _ ?_; clear hK K) | (simp only [push_cast]; done)
  refine awp_block ?_
  refine awp_loopU [5,7,11,12,13,14,15,16,17,18,19,20,21,22] [80] (fun (q : Nat × List Int) => [(11, .int .i64 q.1), (5, .sl 80 [] 0 q.2.length 2)]) (fun q => []) (fun q => [(80, ⟨.ex, 2, dI q.2, none⟩)]) (fun q => q.1 ≤ r.length ∧ q.2 = (r.take q.1).filter (fun x => !decide (x = v))) (fun q => r.length - q.1) (0, []) ?_ ⟨by omega, rfl⟩ ?_
  ·
    simp only [show dI ([] : List Int) = [] from rfl]
    refine cov_of rfl ?_ ?_ ?_ <;> simp only [covS, covL, push_cast, ↓brB_true, ↓brB_false, ↓reduceIte, Nat.reduceMod, Nat.reduceMul, Nat.reduceDiv, Nat.reduceAdd, Nat.reduceSub, Nat.reduceEqDiff, Nat.reduceBEq, Nat.reduceLT, Nat.reduceLeDiff, reduceCtorEq]
  · rintro ⟨k, o⟩ ⟨hk, ho⟩ KL0 hL0
    simp only at hk ho
    have hol : o.length ≤ r.length := by rw [ho]; exact tfilt_le _ _ _
    simp only [push_cast, ↓brB_true, ↓brB_false, ↓reduceIte, Nat.reduceMod, Nat.reduceMul, Nat.reduceDiv, Nat.reduceAdd, Nat.reduceSub, Nat.reduceEqDiff, Nat.reduceBEq, Nat.reduceLT, Nat.reduceLeDiff, reduceCtorEq]
    refine awp_seq' fun K hK => ?_
    refine awp_region tyOk tyPos [] rfl ?_
    simp only [push_cast, ↓brB_true, ↓brB_false, ↓reduceIte, Nat.reduceMod, Nat.reduceMul, Nat.reduceDiv, Nat.reduceAdd, Nat.reduceSub, Nat.reduceEqDiff, Nat.reduceBEq, Nat.reduceLT, Nat.reduceLeDiff, reduceCtorEq]
    repeat' apply And.intro
    all_goals first | exact True.intro | exact rfl | omega | with_reducible assumption | (simp only [List.length_set, List.length_append, List.length_replicate, List.length_cons, List.length_nil]; omega) | skip
    all_goals first | (refine hK _ ?_; clear hK K) | (simp only [push_cast]; done)
    refine awp_seq' fun K2 hK2 => ?_
    refine awp_cond rfl (fun hc => ?_) (fun hc => ?_) <;> (try simp only [push_cast] at hc)
    ·
      refine awp_skip ?_
      (try simp only [AThen, ABlk, reduceIte, Nat.reduceEqDiff]); refine hK2 _ ?_
      refine awp_seq' fun K3 hK3 => ?_
      refine awp_block ?_
      refine awp_seq' fun K hK => ?_
      refine awp_region tyOk tyPos [] rfl ?_
      simp only [push_cast, ↓brB_true, ↓brB_false, ↓reduceIte, Nat.reduceMod, Nat.reduceMul, Nat.reduceDiv, Nat.reduceAdd, Nat.reduceSub, Nat.reduceEqDiff, Nat.reduceBEq, Nat.reduceLT, Nat.reduceLeDiff, reduceCtorEq]
      repeat' apply And.intro
      all_goals first | exact True.intro | exact rfl | omega | with_reducible assumption | (simp only [List.length_set, List.length_append, List.length_replicate, List.length_cons, List.length_nil]; omega) | skip
      all_goals first | (refine hK _ ?_; clear hK K) | (simp only [push_cast]; done)
      refine awp_seq' fun K hK => ?_
      refine awp_region tyOk tyPos [] rfl ?_
      simp only [push_cast, ↓brB_true, ↓brB_false, ↓reduceIte, Nat.reduceMod, Nat.reduceMul, Nat.reduceDiv, Nat.reduceAdd, Nat.reduceSub, Nat.reduceEqDiff, Nat.reduceBEq, Nat.reduceLT, Nat.reduceLeDiff, reduceCtorEq]
      repeat' apply And.intro
      all_goals first | exact True.intro | exact rfl | omega | with_reducible assumption | (simp only [List.length_set, List.length_append, List.length_replicate, List.length_cons, List.length_nil]; omega) | skip
      all_goals first | (refine hK _ ?_; clear hK K) | (simp only [push_cast]; done)
      refine awp_cond rfl (fun hc => ?_) (fun hc => ?_) <;> (try simp only [push_cast] at hc)
      ·
        refine awp_region tyOk tyPos [] rfl ?_
        simp only [push_cast, ↓brB_true, ↓brB_false, ↓reduceIte, Nat.reduceMod, Nat.reduceMul, Nat.reduceDiv, Nat.reduceAdd, Nat.reduceSub, Nat.reduceEqDiff, Nat.reduceBEq, Nat.reduceLT, Nat.reduceLeDiff, reduceCtorEq]
        repeat' apply And.intro
        all_goals first | exact True.intro | exact rfl | omega | with_reducible assumption | (simp only [List.length_set, List.length_append, List.length_replicate, List.length_cons, List.length_nil]; omega) | skip
        (try simp only [AThen, ABlk, reduceIte, Nat.reduceEqDiff]); refine hK3 _ ?_
        refine awp_region tyOk tyPos [] rfl ?_
        simp only [push_cast, ↓brB_true, ↓brB_false, ↓reduceIte, Nat.reduceMod, Nat.reduceMul, Nat.reduceDiv, Nat.reduceAdd, Nat.reduceSub, Nat.reduceEqDiff, Nat.reduceBEq, Nat.reduceLT, Nat.reduceLeDiff, reduceCtorEq]
        repeat' apply And.intro
        all_goals first | exact True.intro | exact rfl | omega | with_reducible assumption | (simp only [List.length_set, List.length_append, List.length_replicate, List.length_cons, List.length_nil]; omega) | skip
        refine hL0 _ ⟨(k + 1, o ++ [gi r k]), ⟨by simp only; omega, by simp only; rw [filt_yes (by omega) (by simp only [decide_eq_false hc, Bool.not_false]), ← ho]⟩, by simp only; omega, ?_⟩
        refine cov_of rfl ?_ ?_ ?_ <;> simp only [covS, covL, push_cast, ↓brB_true, ↓brB_false, ↓reduceIte, Nat.reduceMod, Nat.reduceMul, Nat.reduceDiv, Nat.reduceAdd, Nat.reduceSub, Nat.reduceEqDiff, Nat.reduceBEq, Nat.reduceLT, Nat.reduceLeDiff, reduceCtorEq]
        all_goals (try (rw [List.length_append]; rfl))
      ·
        refine awp_skip ?_
        (try simp only [AThen, ABlk, reduceIte, Nat.reduceEqDiff]); refine hK3 _ ?_
        refine awp_region tyOk tyPos [] rfl ?_
        simp only [push_cast, ↓brB_true, ↓brB_false, ↓reduceIte, Nat.reduceMod, Nat.reduceMul, Nat.reduceDiv, Nat.reduceAdd, Nat.reduceSub, Nat.reduceEqDiff, Nat.reduceBEq, Nat.reduceLT, Nat.reduceLeDiff, reduceCtorEq]
        repeat' apply And.intro
        all_goals first | exact True.intro | exact rfl | omega | with_reducible assumption | (simp only [List.length_set, List.length_append, List.length_replicate, List.length_cons, List.length_nil]; omega) | skip
        refine hL0 _ ⟨(k + 1, o), ⟨by simp only; omega, by simp only; rw [filt_no (by omega) (by simp only [decide_eq_true hc, Bool.not_true]), ← ho]⟩, by simp only; omega, ?_⟩
        refine cov_of rfl ?_ ?_ ?_ <;> simp only [covS, covL, push_cast, ↓brB_true, ↓brB_false, ↓reduceIte, Nat.reduceMod, Nat.reduceMul, Nat.reduceDiv, Nat.reduceAdd, Nat.reduceSub, Nat.reduceEqDiff, Nat.reduceBEq, Nat.reduceLT, Nat.reduceLeDiff, reduceCtorEq]
        all_goals (try (rw [List.length_append]; rfl))
    ·
      refine awp_exit ?_
      have hkk : k = r.length := by omega
      subst hkk
      rw [List.take_length] at ho
      (try simp only [AThen, ABlk, reduceIte, Nat.reduceEqDiff]); refine hK1 _ ?_
      refine awp_seq' fun K hK => ?_
      refine awp_region tyOk tyPos [] rfl ?_
      simp only [push_cast, ↓brB_true, ↓brB_false, ↓reduceIte, Nat.reduceMod, Nat.reduceMul, Nat.reduceDiv, Nat.reduceAdd, Nat.reduceSub, Nat.reduceEqDiff, Nat.reduceBEq, Nat.reduceLT, Nat.reduceLeDiff, reduceCtorEq]
      repeat' apply And.intro
      all_goals first | exact True.intro | exact rfl | omega | with_reducible assumption | (simp only [List.length_set, List.length_append, List.length_replicate, List.length_cons, List.length_nil]; omega) | skip
      all_goals first | (refine hK _ ?_; clear hK K) | (simp only [push_cast]; done)
      refine awp_ret ?_
      (try simp only [AThen, ABlk])
      refine ⟨Or.inl rfl, ?_⟩
      simp only [RetOk, push_cast, ↓brB_true, ↓brB_false, ↓reduceIte, Nat.reduceMod, Nat.reduceMul, Nat.reduceDiv, Nat.reduceAdd, Nat.reduceSub, Nat.reduceEqDiff, Nat.reduceBEq, Nat.reduceLT, Nat.reduceLeDiff, reduceCtorEq]
      subst ho
      first | rfl | (simp; done)
set_option maxRecDepth 20000 in
set_option maxHeartbeats 4000000 in
theorem nextVisits_fn (f : Fm) (hf : f.Ln 1048576) (r : List Int) (hr : r.length ≤ 1048576) (v : Int) (hv : visB f r = true) : Fn Try.prog tyT 98 [.agg (dFm f), .c (DI r), .c (.int .i64 v)] [.c (DI (nextV r v))] := by
  have h1 := hf.names
  have h2 := hf.sets.1
  unfold LnI at h1
  have hrr : ∀ v, (gl f.sets v).length ≤ 1048576 := fun v => gl_le hf.sets v
  have hC := Contains_fn f.names v h1
  rw [vis_has hv] at hC
  have hL := lessInOrder_fn r hr v
  have hl4 := (vis_facts hv).2.2.1
  have hfl := filt_le r (fun x => !decide (x = v))
  unfold dFm
  refine Fn_of (fn := Try.f98) (ts := [6]) Try.func98 (by kernel_rfl) rfl rfl (by rw [Try.ntmps98]; exact Nat.le_of_ble_eq_true rfl) rfl (by simp only [szA, List.mem_cons, List.not_mem_nil, or_false, forall_eq_or_imp, forall_eq, VT.cells, szL]; try decide) ?_
  rw [Try.ntmps98]
  simp only [push_cast, ↓brB_true, ↓brB_false, ↓reduceIte, Nat.reduceMod, Nat.reduceMul, Nat.reduceDiv, Nat.reduceAdd, Nat.reduceSub, Nat.reduceEqDiff, Nat.reduceBEq, Nat.reduceLT, Nat.reduceLeDiff, reduceCtorEq]
  refine awp_seq' fun K hK => ?_
  refine awp_region tyOk tyPos [] rfl ?_
  simp only [push_cast, ↓brB_true, ↓brB_false, ↓reduceIte, Nat.reduceMod, Nat.reduceMul, Nat.reduceDiv, Nat.reduceAdd, Nat.reduceSub, Nat.reduceEqDiff, Nat.reduceBEq, Nat.reduceLT, Nat.reduceLeDiff, reduceCtorEq]
  repeat' apply And.intro
  all_goals first | exact True.intro | exact rfl | omega | with_reducible assumption | (simp only [List.length_set, List.length_append, List.length_replicate, List.length_cons, List.length_nil]; omega) | skip
  all_goals first | (refine hK _ ?_; clear hK K) | (simp only [push_cast]; done)
  refine awp_seq' fun K1 hK1 => ?_
  refine awp_seq' fun K hK => ?_
  refine awp_region tyOk tyPos [] rfl ?_
  all_goals refine aops_cut 4 fun K9 hK9 => ?_
  all_goals simp only [push_cast, ↓brB_true, ↓brB_false, ↓reduceIte, Nat.reduceMod, Nat.reduceMul, Nat.reduceDiv, Nat.reduceAdd, Nat.reduceSub, Nat.reduceEqDiff, Nat.reduceBEq, Nat.reduceLT, Nat.reduceLeDiff, reduceCtorEq]
  all_goals repeat' (first | (apply brB_mk <;> (intro hg; (try simp only [push_cast] at hg))) | (refine ⟨_, hC, ?_⟩; simp only [push_cast, ↓brB_true, ↓brB_false, ↓reduceIte, Nat.reduceMod, Nat.reduceMul, Nat.reduceDiv, Nat.reduceAdd, Nat.reduceSub, Nat.reduceEqDiff, Nat.reduceBEq, Nat.reduceLT, Nat.reduceLeDiff, reduceCtorEq]) | apply And.intro | (intro hg; (try simp only [push_cast] at hg)))
  all_goals first | exact True.intro | exact rfl | contradiction | omega | with_reducible assumption | skip
  all_goals first | (refine hK9 _ ?_; clear hK9 K9) | (simp only [push_cast]; done)
  all_goals simp only [push_cast, ↓brB_true, ↓brB_false, ↓reduceIte, Nat.reduceMod, Nat.reduceMul, Nat.reduceDiv, Nat.reduceAdd, Nat.reduceSub, Nat.reduceEqDiff, Nat.reduceBEq, Nat.reduceLT, Nat.reduceLeDiff, reduceCtorEq]
  all_goals repeat' (first | (apply brB_mk <;> (intro hg; (try simp only [push_cast] at hg))) | (refine ⟨_, hC, ?_⟩; simp only [push_cast, ↓brB_true, ↓brB_false, ↓reduceIte, Nat.reduceMod, Nat.reduceMul, Nat.reduceDiv, Nat.reduceAdd, Nat.reduceSub, Nat.reduceEqDiff, Nat.reduceBEq, Nat.reduceLT, Nat.reduceLeDiff, reduceCtorEq]) | apply And.intro | (intro hg; (try simp only [push_cast] at hg)))
  all_goals first | exact True.intro | exact rfl | contradiction | omega | with_reducible assumption | skip
  all_goals first | (refine hK _ ?_; clear hK K) | (simp only [push_cast]; done)
  refine awp_cond rfl (fun hc => ?_) (fun hc => ?_) <;> (try simp only [push_cast] at hc)
  ·
    refine awp_seq' fun K hK => ?_
    refine awp_region tyOk tyPos [] rfl ?_
    simp only [push_cast, ↓brB_true, ↓brB_false, ↓reduceIte, Nat.reduceMod, Nat.reduceMul, Nat.reduceDiv, Nat.reduceAdd, Nat.reduceSub, Nat.reduceEqDiff, Nat.reduceBEq, Nat.reduceLT, Nat.reduceLeDiff, reduceCtorEq]
    repeat' apply And.intro
    all_goals first | exact True.intro | exact rfl | omega | with_reducible assumption | (simp only [List.length_set, List.length_append, List.length_replicate, List.length_cons, List.length_nil]; omega) | skip
    all_goals first | (refine hK _ ?_; clear hK K) | (simp only [push_cast]; done)
    refine awp_ret ?_
    (try simp only [AThen, ABlk])
    refine ⟨Or.inl rfl, ?_⟩
    simp only [RetOk, push_cast, ↓brB_true, ↓brB_false, ↓reduceIte, Nat.reduceMod, Nat.reduceMul, Nat.reduceDiv, Nat.reduceAdd, Nat.reduceSub, Nat.reduceEqDiff, Nat.reduceBEq, Nat.reduceLT, Nat.reduceLeDiff, reduceCtorEq]
    rw [nextV_no (by with_reducible assumption)]
    (try rw [List.take_of_length_le (l := r) (Nat.le_refl _)])
    all_goals first | rfl | exact ⟨rfl, rfl⟩ | (simp; done)
  ·
    refine awp_skip ?_
    (try simp only [AThen, ABlk, reduceIte, Nat.reduceEqDiff]); refine hK1 _ ?_
    refine awp_seq' fun K hK => ?_
    refine awp_region tyOk tyPos [] rfl ?_
    all_goals refine aops_cut 5 fun K9 hK9 => ?_
    all_goals simp only [push_cast, ↓brB_true, ↓brB_false, ↓reduceIte, Nat.reduceMod, Nat.reduceMul, Nat.reduceDiv, Nat.reduceAdd, Nat.reduceSub, Nat.reduceEqDiff, Nat.reduceBEq, Nat.reduceLT, Nat.reduceLeDiff, reduceCtorEq]
    all_goals repeat' (first | (apply brB_mk <;> (intro hg; (try simp only [push_cast] at hg))) | (refine ⟨_, hL, ?_⟩; simp only [push_cast, ↓brB_true, ↓brB_false, ↓reduceIte, Nat.reduceMod, Nat.reduceMul, Nat.reduceDiv, Nat.reduceAdd, Nat.reduceSub, Nat.reduceEqDiff, Nat.reduceBEq, Nat.reduceLT, Nat.reduceLeDiff, reduceCtorEq]) | apply And.intro | (intro hg; (try simp only [push_cast] at hg)))
    all_goals first | exact True.intro | exact rfl | contradiction | omega | with_reducible assumption | skip
    all_goals first | (refine hK9 _ ?_; clear hK9 K9) | (simp only [push_cast]; done)
    all_goals simp only [push_cast, ↓brB_true, ↓brB_false, ↓reduceIte, Nat.reduceMod, Nat.reduceMul, Nat.reduceDiv, Nat.reduceAdd, Nat.reduceSub, Nat.reduceEqDiff, Nat.reduceBEq, Nat.reduceLT, Nat.reduceLeDiff, reduceCtorEq]
    all_goals repeat' (first | (apply brB_mk <;> (intro hg; (try simp only [push_cast] at hg))) | (refine ⟨_, hL, ?_⟩; simp only [push_cast, ↓brB_true, ↓brB_false, ↓reduceIte, Nat.reduceMod, Nat.reduceMul, Nat.reduceDiv, Nat.reduceAdd, Nat.reduceSub, Nat.reduceEqDiff, Nat.reduceBEq, Nat.reduceLT, Nat.reduceLeDiff, reduceCtorEq]) | apply And.intro | (intro hg; (try simp only [push_cast] at hg)))
    all_goals first | exact True.intro | exact rfl | contradiction | omega | with_reducible assumption | skip
    all_goals first | (refine hK _ ?_; clear hK K) | (simp only [push_cast]; done)
    refine awp_ret ?_
    (try simp only [AThen, ABlk])
    refine ⟨Or.inl rfl, ?_⟩
    simp only [RetOk, push_cast, ↓brB_true, ↓brB_false, ↓reduceIte, Nat.reduceMod, Nat.reduceMul, Nat.reduceDiv, Nat.reduceAdd, Nat.reduceSub, Nat.reduceEqDiff, Nat.reduceBEq, Nat.reduceLT, Nat.reduceLeDiff, reduceCtorEq]
    rw [nextV_yes (by with_reducible assumption)]
    (try rw [List.take_of_length_le (l := r.filter fun x => !decide (x = v)) (Nat.le_refl _)])
    exact ⟨rfl, Nat.add_comm _ _⟩
set_option maxRecDepth 20000 in
set_option maxHeartbeats 4000000 in
theorem NextVisitsI_fn (f : Fm) (hf : f.Ln 1048576) (r : List Int) (hr : r.length ≤ 1048576) (v : Int) : Fn Try.prog tyT 31 [.agg (dFm f), .c (DI r), .c (.int .i64 v)] [.c (DI (nextRes f r v))] := by
  have h1 := hf.names
  have h2 := hf.sets.1
  unfold LnI at h1
  have hrr : ∀ v, (gl f.sets v).length ≤ 1048576 := fun v => gl_le hf.sets v
  have hA := isVisits_fn f hf r hr
  have hN := nextVisits_fn f hf r hr v
  unfold dFm at hA hN
  unfold dFm
  refine Fn_of (fn := Try.f31) (ts := [6]) Try.func31 (by kernel_rfl) rfl rfl (by rw [Try.ntmps31]; exact Nat.le_of_ble_eq_true rfl) rfl (by simp only [szA, List.mem_cons, List.not_mem_nil, or_false, forall_eq_or_imp, forall_eq, VT.cells, szL]; try decide) ?_
  rw [Try.ntmps31]
  simp only [push_cast, ↓brB_true, ↓brB_false, ↓reduceIte, Nat.reduceMod, Nat.reduceMul, Nat.reduceDiv, Nat.reduceAdd, Nat.reduceSub, Nat.reduceEqDiff, Nat.reduceBEq, Nat.reduceLT, Nat.reduceLeDiff, reduceCtorEq]
  refine awp_seq' fun K hK => ?_
  refine awp_region tyOk tyPos [] rfl ?_
  simp only [push_cast, ↓brB_true, ↓brB_false, ↓reduceIte, Nat.reduceMod, Nat.reduceMul, Nat.reduceDiv, Nat.reduceAdd, Nat.reduceSub, Nat.reduceEqDiff, Nat.reduceBEq, Nat.reduceLT, Nat.reduceLeDiff, reduceCtorEq]
  repeat' apply And.intro
  all_goals first | exact True.intro | exact rfl | omega | with_reducible assumption | (simp only [List.length_set, List.length_append, List.length_replicate, List.length_cons, List.length_nil]; omega) | skip
  all_goals first | (refine hK _ ?_; clear hK K) | (simp only [push_cast]; done)
  refine awp_seq' fun K1 hK1 => ?_
  refine awp_seq' fun K hK => ?_
  refine awp_regionN false tyOk tyPos ?_ rfl ?_
  · kernel_rfl
  all_goals refine seqE_cut 3 fun K9 hK9 => ?_
  all_goals simp only [push_cast, ↓brB_true, ↓brB_false, ↓reduceIte, Nat.reduceMod, Nat.reduceMul, Nat.reduceDiv, Nat.reduceAdd, Nat.reduceSub, Nat.reduceEqDiff, Nat.reduceBEq, Nat.reduceLT, Nat.reduceLeDiff, reduceCtorEq]
  all_goals repeat' (first | (apply brB_mk <;> (intro hg; (try simp only [push_cast] at hg))) | (refine ⟨_, hA, ?_⟩; simp only [push_cast, ↓brB_true, ↓brB_false, ↓reduceIte, Nat.reduceMod, Nat.reduceMul, Nat.reduceDiv, Nat.reduceAdd, Nat.reduceSub, Nat.reduceEqDiff, Nat.reduceBEq, Nat.reduceLT, Nat.reduceLeDiff, reduceCtorEq]) | apply And.intro | (intro hg; (try simp only [push_cast] at hg)))
  all_goals first | exact True.intro | exact rfl | contradiction | omega | with_reducible assumption | skip
  all_goals first | (refine hK9 _ ?_; clear hK9 K9) | (simp only [push_cast]; done)
  all_goals simp only [push_cast, ↓brB_true, ↓brB_false, ↓reduceIte, Nat.reduceMod, Nat.reduceMul, Nat.reduceDiv, Nat.reduceAdd, Nat.reduceSub, Nat.reduceEqDiff, Nat.reduceBEq, Nat.reduceLT, Nat.reduceLeDiff, reduceCtorEq]
  all_goals repeat' (first | (apply brB_mk <;> (intro hg; (try simp only [push_cast] at hg))) | (refine ⟨_, hA, ?_⟩; simp only [push_cast, ↓brB_true, ↓brB_false, ↓reduceIte, Nat.reduceMod, Nat.reduceMul, Nat.reduceDiv, Nat.reduceAdd, Nat.reduceSub, Nat.reduceEqDiff, Nat.reduceBEq, Nat.reduceLT, Nat.reduceLeDiff, reduceCtorEq]) | apply And.intro | (intro hg; (try simp only [push_cast] at hg)))
  all_goals first | exact True.intro | exact rfl | contradiction | omega | with_reducible assumption | skip
  all_goals first | (refine hK _ ?_; clear hK K) | (simp only [push_cast]; done)
  all_goals refine awp_cond rfl (fun hc => ?_) (fun hc => ?_)
  all_goals (first | (cases hc; done) | skip)
  all_goals (try simp only [push_cast] at hc)
  all_goals try (
      refine awp_seq' fun K hK => ?_
      refine awp_region tyOk tyPos [] rfl ?_
      simp only [push_cast, ↓brB_true, ↓brB_false, ↓reduceIte, Nat.reduceMod, Nat.reduceMul, Nat.reduceDiv, Nat.reduceAdd, Nat.reduceSub, Nat.reduceEqDiff, Nat.reduceBEq, Nat.reduceLT, Nat.reduceLeDiff, reduceCtorEq]
      repeat' apply And.intro
      all_goals first | exact True.intro | exact rfl | omega | with_reducible assumption | (simp only [List.length_set, List.length_append, List.length_replicate, List.length_cons, List.length_nil]; omega) | skip
      all_goals first | (refine hK _ ?_; clear hK K) | (simp only [push_cast]; done)
      refine awp_ret ?_
      (try simp only [AThen, ABlk])
      refine ⟨Or.inl rfl, ?_⟩
      simp only [RetOk, push_cast, ↓brB_true, ↓brB_false, ↓reduceIte, Nat.reduceMod, Nat.reduceMul, Nat.reduceDiv, Nat.reduceAdd, Nat.reduceSub, Nat.reduceEqDiff, Nat.reduceBEq, Nat.reduceLT, Nat.reduceLeDiff, reduceCtorEq]
      rw [nextRes_no (by first | exact rightB_no1 (by with_reducible assumption) | exact rightB_no2 (by omega))]
      all_goals first | rfl | exact ⟨rfl, rfl⟩ | (simp [dI]; done)
      done)
  refine awp_skip ?_
  (try simp only [AThen, ABlk, reduceIte, Nat.reduceEqDiff]); refine hK1 _ ?_
  have hok : visB f r = true := by with_reducible assumption
  have hrt : rightB f r v = true := rightB_yes hok (by omega)
  refine awp_seq' fun K hK => ?_
  refine awp_region tyOk tyPos [] rfl ?_
  all_goals refine aops_cut 4 fun K9 hK9 => ?_
  all_goals simp only [push_cast, ↓brB_true, ↓brB_false, ↓reduceIte, Nat.reduceMod, Nat.reduceMul, Nat.reduceDiv, Nat.reduceAdd, Nat.reduceSub, Nat.reduceEqDiff, Nat.reduceBEq, Nat.reduceLT, Nat.reduceLeDiff, reduceCtorEq]
  all_goals repeat' (first | (apply brB_mk <;> (intro hg; (try simp only [push_cast] at hg))) | (refine ⟨_, hN hok, ?_⟩; simp only [push_cast, ↓brB_true, ↓brB_false, ↓reduceIte, Nat.reduceMod, Nat.reduceMul, Nat.reduceDiv, Nat.reduceAdd, Nat.reduceSub, Nat.reduceEqDiff, Nat.reduceBEq, Nat.reduceLT, Nat.reduceLeDiff, reduceCtorEq]) | apply And.intro | (intro hg; (try simp only [push_cast] at hg)))
  all_goals first | exact True.intro | exact rfl | contradiction | omega | with_reducible assumption | skip
  all_goals first | (refine hK9 _ ?_; clear hK9 K9) | (simp only [push_cast]; done)
  all_goals simp only [push_cast, ↓brB_true, ↓brB_false, ↓reduceIte, Nat.reduceMod, Nat.reduceMul, Nat.reduceDiv, Nat.reduceAdd, Nat.reduceSub, Nat.reduceEqDiff, Nat.reduceBEq, Nat.reduceLT, Nat.reduceLeDiff, reduceCtorEq]
  all_goals repeat' (first | (apply brB_mk <;> (intro hg; (try simp only [push_cast] at hg))) | (refine ⟨_, hN hok, ?_⟩; simp only [push_cast, ↓brB_true, ↓brB_false, ↓reduceIte, Nat.reduceMod, Nat.reduceMul, Nat.reduceDiv, Nat.reduceAdd, Nat.reduceSub, Nat.reduceEqDiff, Nat.reduceBEq, Nat.reduceLT, Nat.reduceLeDiff, reduceCtorEq]) | apply And.intro | (intro hg; (try simp only [push_cast] at hg)))
  all_goals first | exact True.intro | exact rfl | contradiction | omega | with_reducible assumption | skip
  all_goals first | (refine hK _ ?_; clear hK K) | (simp only [push_cast]; done)
  refine awp_ret ?_
  (try simp only [AThen, ABlk])
  refine ⟨Or.inl rfl, ?_⟩
  simp only [RetOk, push_cast, ↓brB_true, ↓brB_false, ↓reduceIte, Nat.reduceMod, Nat.reduceMul, Nat.reduceDiv, Nat.reduceAdd, Nat.reduceSub, Nat.reduceEqDiff, Nat.reduceBEq, Nat.reduceLT, Nat.reduceLeDiff, reduceCtorEq]
  rw [nextRes_yes hrt]
  all_goals first | rfl | exact ⟨rfl, rfl⟩ | (simp; done)
set_option maxRecDepth 20000 in
set_option maxHeartbeats 4000000 in
theorem l18Right_fn (f : Fm) (hf : f.Ln 1048576) (r : List Int) (hr : r.length ≤ 1048576) (v : Int) : Fn Try.prog tyT 94 [.agg (dFm f), .c (DI r), .c (.int .i64 v)] [.c (.bool (rightB f r v))] := by
  have h1 := hf.names
  have h2 := hf.sets.1
  unfold LnI at h1
  have hrr : ∀ v, (gl f.sets v).length ≤ 1048576 := fun v => gl_le hf.sets v
  have hA := VisitsOkS_fn f hf r hr
  have hI := l1In_fn v 0 255
  unfold dFm at hA
  unfold dFm
  refine Fn_of (fn := Try.f94) (ts := [6]) Try.func94 (by kernel_rfl) rfl rfl (by rw [Try.ntmps94]; exact Nat.le_of_ble_eq_true rfl) rfl (by simp only [szA, List.mem_cons, List.not_mem_nil, or_false, forall_eq_or_imp, forall_eq, VT.cells, szL]; try decide) ?_
  rw [Try.ntmps94]
  simp only [push_cast, ↓brB_true, ↓brB_false, ↓reduceIte, Nat.reduceMod, Nat.reduceMul, Nat.reduceDiv, Nat.reduceAdd, Nat.reduceSub, Nat.reduceEqDiff, Nat.reduceBEq, Nat.reduceLT, Nat.reduceLeDiff, reduceCtorEq]
  refine awp_seq' fun K hK => ?_
  refine awp_region tyOk tyPos [] rfl ?_
  simp only [push_cast, ↓brB_true, ↓brB_false, ↓reduceIte, Nat.reduceMod, Nat.reduceMul, Nat.reduceDiv, Nat.reduceAdd, Nat.reduceSub, Nat.reduceEqDiff, Nat.reduceBEq, Nat.reduceLT, Nat.reduceLeDiff, reduceCtorEq]
  repeat' apply And.intro
  all_goals first | exact True.intro | exact rfl | omega | with_reducible assumption | (simp only [List.length_set, List.length_append, List.length_replicate, List.length_cons, List.length_nil]; omega) | skip
  all_goals first | (refine hK _ ?_; clear hK K) | (simp only [push_cast]; done)
  refine awp_seq' fun K hK => ?_
  refine awp_regionN false tyOk tyPos ?_ rfl ?_
  · kernel_rfl
  all_goals refine seqE_cut 3 fun K9 hK9 => ?_
  all_goals simp only [push_cast, ↓brB_true, ↓brB_false, ↓reduceIte, Nat.reduceMod, Nat.reduceMul, Nat.reduceDiv, Nat.reduceAdd, Nat.reduceSub, Nat.reduceEqDiff, Nat.reduceBEq, Nat.reduceLT, Nat.reduceLeDiff, reduceCtorEq]
  all_goals repeat' (first | (apply brB_mk <;> (intro hg; (try simp only [push_cast] at hg))) | (refine ⟨_, hA, ?_⟩; simp only [push_cast, ↓brB_true, ↓brB_false, ↓reduceIte, Nat.reduceMod, Nat.reduceMul, Nat.reduceDiv, Nat.reduceAdd, Nat.reduceSub, Nat.reduceEqDiff, Nat.reduceBEq, Nat.reduceLT, Nat.reduceLeDiff, reduceCtorEq]) | (refine ⟨_, hI, ?_⟩; simp only [push_cast, ↓brB_true, ↓brB_false, ↓reduceIte, Nat.reduceMod, Nat.reduceMul, Nat.reduceDiv, Nat.reduceAdd, Nat.reduceSub, Nat.reduceEqDiff, Nat.reduceBEq, Nat.reduceLT, Nat.reduceLeDiff, reduceCtorEq]) | apply And.intro | (intro hg; (try simp only [push_cast] at hg)))
  all_goals first | exact True.intro | exact rfl | contradiction | omega | with_reducible assumption | skip
  all_goals first | (refine hK9 _ ?_; clear hK9 K9) | (simp only [push_cast]; done)
  all_goals refine seqE_cut 3 fun K9 hK9 => ?_
  all_goals simp only [push_cast, ↓brB_true, ↓brB_false, ↓reduceIte, Nat.reduceMod, Nat.reduceMul, Nat.reduceDiv, Nat.reduceAdd, Nat.reduceSub, Nat.reduceEqDiff, Nat.reduceBEq, Nat.reduceLT, Nat.reduceLeDiff, reduceCtorEq]
  all_goals repeat' (first | (apply brB_mk <;> (intro hg; (try simp only [push_cast] at hg))) | (refine ⟨_, hA, ?_⟩; simp only [push_cast, ↓brB_true, ↓brB_false, ↓reduceIte, Nat.reduceMod, Nat.reduceMul, Nat.reduceDiv, Nat.reduceAdd, Nat.reduceSub, Nat.reduceEqDiff, Nat.reduceBEq, Nat.reduceLT, Nat.reduceLeDiff, reduceCtorEq]) | (refine ⟨_, hI, ?_⟩; simp only [push_cast, ↓brB_true, ↓brB_false, ↓reduceIte, Nat.reduceMod, Nat.reduceMul, Nat.reduceDiv, Nat.reduceAdd, Nat.reduceSub, Nat.reduceEqDiff, Nat.reduceBEq, Nat.reduceLT, Nat.reduceLeDiff, reduceCtorEq]) | apply And.intro | (intro hg; (try simp only [push_cast] at hg)))
  all_goals first | exact True.intro | exact rfl | contradiction | omega | with_reducible assumption | skip
  all_goals first | (refine hK9 _ ?_; clear hK9 K9) | (simp only [push_cast]; done)
  all_goals simp only [push_cast, ↓brB_true, ↓brB_false, ↓reduceIte, Nat.reduceMod, Nat.reduceMul, Nat.reduceDiv, Nat.reduceAdd, Nat.reduceSub, Nat.reduceEqDiff, Nat.reduceBEq, Nat.reduceLT, Nat.reduceLeDiff, reduceCtorEq]
  all_goals repeat' (first | (apply brB_mk <;> (intro hg; (try simp only [push_cast] at hg))) | (refine ⟨_, hA, ?_⟩; simp only [push_cast, ↓brB_true, ↓brB_false, ↓reduceIte, Nat.reduceMod, Nat.reduceMul, Nat.reduceDiv, Nat.reduceAdd, Nat.reduceSub, Nat.reduceEqDiff, Nat.reduceBEq, Nat.reduceLT, Nat.reduceLeDiff, reduceCtorEq]) | (refine ⟨_, hI, ?_⟩; simp only [push_cast, ↓brB_true, ↓brB_false, ↓reduceIte, Nat.reduceMod, Nat.reduceMul, Nat.reduceDiv, Nat.reduceAdd, Nat.reduceSub, Nat.reduceEqDiff, Nat.reduceBEq, Nat.reduceLT, Nat.reduceLeDiff, reduceCtorEq]) | apply And.intro | (intro hg; (try simp only [push_cast] at hg)))
  all_goals first | exact True.intro | exact rfl | contradiction | omega | with_reducible assumption | skip
  all_goals first | (refine hK _ ?_; clear hK K) | (simp only [push_cast]; done)
  all_goals (
      refine awp_ret ?_
      (try simp only [AThen, ABlk])
      refine ⟨Or.inl rfl, ?_⟩
      simp only [RetOk, push_cast, ↓brB_true, ↓brB_false, ↓reduceIte, Nat.reduceMod, Nat.reduceMul, Nat.reduceDiv, Nat.reduceAdd, Nat.reduceSub, Nat.reduceEqDiff, Nat.reduceBEq, Nat.reduceLT, Nat.reduceLeDiff, reduceCtorEq]
      all_goals first | exact (rightB_no1 (by with_reducible assumption)).symm | (unfold rightB; rw [show visB f r = true from by with_reducible assumption]; done) | (unfold rightB; rw [show visB f r = true from by with_reducible assumption, Bool.true_and]; done))
set_option maxRecDepth 20000 in
set_option maxHeartbeats 4000000 in
theorem l18Next_fn (r : List Int) (hr : r.length ≤ 1048570) (v : Int) : Fn Try.prog tyT 97 [.c (DI r), .c (.int .i64 v)] [.c (DI (nextV r v))] := by
  have hC := l16Has_fn r v (by omega)
  refine Fn_of (fn := Try.f97) (ts := [4]) Try.func97 (by kernel_rfl) rfl rfl (by rw [Try.ntmps97]; exact Nat.le_of_ble_eq_true rfl) rfl (by simp only [szA, List.mem_cons, List.not_mem_nil, or_false, forall_eq_or_imp, forall_eq, VT.cells, szL]; try decide) ?_
  rw [Try.ntmps97]
  simp only [push_cast, ↓brB_true, ↓brB_false, ↓reduceIte, Nat.reduceMod, Nat.reduceMul, Nat.reduceDiv, Nat.reduceAdd, Nat.reduceSub, Nat.reduceEqDiff, Nat.reduceBEq, Nat.reduceLT, Nat.reduceLeDiff, reduceCtorEq]
  refine awp_seq' fun K hK => ?_
  refine awp_region tyOk tyPos [] rfl ?_
  simp only [push_cast, ↓brB_true, ↓brB_false, ↓reduceIte, Nat.reduceMod, Nat.reduceMul, Nat.reduceDiv, Nat.reduceAdd, Nat.reduceSub, Nat.reduceEqDiff, Nat.reduceBEq, Nat.reduceLT, Nat.reduceLeDiff, reduceCtorEq]
  repeat' apply And.intro
  all_goals first | exact True.intro | exact rfl | omega | with_reducible assumption | (simp only [List.length_set, List.length_append, List.length_replicate, List.length_cons, List.length_nil]; omega) | skip
  all_goals first | (refine hK _ ?_; clear hK K) | (simp only [push_cast]; done)
  refine awp_seq' fun K1 hK1 => ?_
  refine awp_seq' fun K hK => ?_
  refine awp_region tyOk tyPos [] rfl ?_
  all_goals refine aops_cut 3 fun K9 hK9 => ?_
  all_goals simp only [push_cast, ↓brB_true, ↓brB_false, ↓reduceIte, Nat.reduceMod, Nat.reduceMul, Nat.reduceDiv, Nat.reduceAdd, Nat.reduceSub, Nat.reduceEqDiff, Nat.reduceBEq, Nat.reduceLT, Nat.reduceLeDiff, reduceCtorEq]
  all_goals repeat' (first | (apply brB_mk <;> (intro hg; (try simp only [push_cast] at hg))) | (refine ⟨_, hC, ?_⟩; simp only [push_cast, ↓brB_true, ↓brB_false, ↓reduceIte, Nat.reduceMod, Nat.reduceMul, Nat.reduceDiv, Nat.reduceAdd, Nat.reduceSub, Nat.reduceEqDiff, Nat.reduceBEq, Nat.reduceLT, Nat.reduceLeDiff, reduceCtorEq]) | apply And.intro | (intro hg; (try simp only [push_cast] at hg)))
  all_goals first | exact True.intro | exact rfl | contradiction | omega | with_reducible assumption | skip
  all_goals first | (refine hK9 _ ?_; clear hK9 K9) | (simp only [push_cast]; done)
  all_goals simp only [push_cast, ↓brB_true, ↓brB_false, ↓reduceIte, Nat.reduceMod, Nat.reduceMul, Nat.reduceDiv, Nat.reduceAdd, Nat.reduceSub, Nat.reduceEqDiff, Nat.reduceBEq, Nat.reduceLT, Nat.reduceLeDiff, reduceCtorEq]
  all_goals repeat' (first | (apply brB_mk <;> (intro hg; (try simp only [push_cast] at hg))) | (refine ⟨_, hC, ?_⟩; simp only [push_cast, ↓brB_true, ↓brB_false, ↓reduceIte, Nat.reduceMod, Nat.reduceMul, Nat.reduceDiv, Nat.reduceAdd, Nat.reduceSub, Nat.reduceEqDiff, Nat.reduceBEq, Nat.reduceLT, Nat.reduceLeDiff, reduceCtorEq]) | apply And.intro | (intro hg; (try simp only [push_cast] at hg)))
  all_goals first | exact True.intro | exact rfl | contradiction | omega | with_reducible assumption | skip
  all_goals first | (refine hK _ ?_; clear hK K) | (simp only [push_cast]; done)
  refine awp_cond rfl (fun hc => ?_) (fun hc => ?_) <;> (try simp only [push_cast] at hc)
  ·
    refine awp_seq' fun K hK => ?_
    refine awp_region tyOk tyPos [] rfl ?_
    simp only [push_cast, ↓brB_true, ↓brB_false, ↓reduceIte, Nat.reduceMod, Nat.reduceMul, Nat.reduceDiv, Nat.reduceAdd, Nat.reduceSub, Nat.reduceEqDiff, Nat.reduceBEq, Nat.reduceLT, Nat.reduceLeDiff, reduceCtorEq]
    repeat' apply And.intro
    all_goals first | exact True.intro | exact rfl | omega | with_reducible assumption | (simp only [List.length_set, List.length_append, List.length_replicate, List.length_cons, List.length_nil]; omega) | skip
    all_goals first | (refine hK _ ?_; clear hK K) | (simp only [push_cast]; done)
    refine awp_ret ?_
    (try simp only [AThen, ABlk])
    refine ⟨Or.inl rfl, ?_⟩
    simp only [RetOk, push_cast, ↓brB_true, ↓brB_false, ↓reduceIte, Nat.reduceMod, Nat.reduceMul, Nat.reduceDiv, Nat.reduceAdd, Nat.reduceSub, Nat.reduceEqDiff, Nat.reduceBEq, Nat.reduceLT, Nat.reduceLeDiff, reduceCtorEq]
    rw [nextV_no (by with_reducible assumption)]
    (try rw [List.take_of_length_le (l := r) (Nat.le_refl _)])
    all_goals first | rfl | exact ⟨rfl, rfl⟩ | (simp; done)
  ·
    refine awp_skip ?_
    (try simp only [AThen, ABlk, reduceIte, Nat.reduceEqDiff]); refine hK1 _ ?_
    refine awp_seq' fun K hK => ?_
    refine awp_region tyOk tyPos [] rfl ?_
    simp only [push_cast, ↓brB_true, ↓brB_false, ↓reduceIte, Nat.reduceMod, Nat.reduceMul, Nat.reduceDiv, Nat.reduceAdd, Nat.reduceSub, Nat.reduceEqDiff, Nat.reduceBEq, Nat.reduceLT, Nat.reduceLeDiff, reduceCtorEq]
    repeat' apply And.intro
    all_goals first | exact True.intro | exact rfl | omega | with_reducible assumption | (simp only [List.length_set, List.length_append, List.length_replicate, List.length_cons, List.length_nil]; omega) | skip
    all_goals first | (refine hK _ ?_; clear hK K) | (simp only [push_cast]; done)
    refine awp_seq' fun K2 hK2 => ?_
    refine awp_seq' fun K hK => ?_
    refine awp_region tyOk tyPos [] rfl ?_
    simp only [push_cast, ↓brB_true, ↓brB_false, ↓reduceIte, Nat.reduceMod, Nat.reduceMul, Nat.reduceDiv, Nat.reduceAdd, Nat.reduceSub, Nat.reduceEqDiff, Nat.reduceBEq, Nat.reduceLT, Nat.reduceLeDiff, reduceCtorEq]
    repeat' apply And.intro
    all_goals first | exact True.intro | exact rfl | omega | with_reducible assumption | (simp only [List.length_set, List.length_append, List.length_replicate, List.length_cons, List.length_nil]; omega) | skip
    all_goals first | (refine hK _ ?_; clear hK K) | (simp only [push_cast]; done)
    refine awp_block ?_
    refine awp_loopU [5,6,16,17,18,19,20,21,22,23,24,25,26,27,28,29,30,31,32,33,34] [80] (fun (q : Nat × List Int) => [(6, .int .i64 q.1), (5, .sl 80 [] 0 (q.2.length + 1) 2)]) (fun q => []) (fun q => [(80, ⟨.ex, 2, dI (v :: q.2), none⟩)]) (fun q => q.1 ≤ r.length ∧ q.2 = (r.take q.1).filter (fun x => !decide (x = v))) (fun q => r.length - q.1) (0, []) ?_ ⟨by omega, rfl⟩ ?_
    ·
      simp only [show dI (v :: ([] : List Int)) = [D.int .i64 v] from rfl]
      refine cov_of rfl ?_ ?_ ?_ <;> simp only [covS, covL, push_cast, ↓brB_true, ↓brB_false, ↓reduceIte, Nat.reduceMod, Nat.reduceMul, Nat.reduceDiv, Nat.reduceAdd, Nat.reduceSub, Nat.reduceEqDiff, Nat.reduceBEq, Nat.reduceLT, Nat.reduceLeDiff, reduceCtorEq]
    · rintro ⟨k, o⟩ ⟨hk, ho⟩ KL0 hL0
      simp only at hk ho
      have hol : o.length ≤ r.length := by rw [ho]; exact tfilt_le _ _ _
      simp only [push_cast, ↓brB_true, ↓brB_false, ↓reduceIte, Nat.reduceMod, Nat.reduceMul, Nat.reduceDiv, Nat.reduceAdd, Nat.reduceSub, Nat.reduceEqDiff, Nat.reduceBEq, Nat.reduceLT, Nat.reduceLeDiff, reduceCtorEq]
      refine awp_seq' fun K3 hK3 => ?_
      refine awp_seq' fun K hK => ?_
      refine awp_region tyOk tyPos [] rfl ?_
      simp only [push_cast, ↓brB_true, ↓brB_false, ↓reduceIte, Nat.reduceMod, Nat.reduceMul, Nat.reduceDiv, Nat.reduceAdd, Nat.reduceSub, Nat.reduceEqDiff, Nat.reduceBEq, Nat.reduceLT, Nat.reduceLeDiff, reduceCtorEq]
      repeat' apply And.intro
      all_goals first | exact True.intro | exact rfl | omega | with_reducible assumption | (simp only [List.length_set, List.length_append, List.length_replicate, List.length_cons, List.length_nil]; omega) | skip
      all_goals first | (refine hK _ ?_; clear hK K) | (simp only [push_cast]; done)
      refine awp_cond rfl (fun hc => ?_) (fun hc => ?_) <;> (try simp only [push_cast] at hc)
      ·
        refine awp_skip ?_
        (try simp only [AThen, ABlk, reduceIte, Nat.reduceEqDiff]); refine hK3 _ ?_
        refine awp_seq' fun K4 hK4 => ?_
        refine awp_block ?_
        refine awp_seq' fun K hK => ?_
        refine awp_region tyOk tyPos [] rfl ?_
        simp only [push_cast, ↓brB_true, ↓brB_false, ↓reduceIte, Nat.reduceMod, Nat.reduceMul, Nat.reduceDiv, Nat.reduceAdd, Nat.reduceSub, Nat.reduceEqDiff, Nat.reduceBEq, Nat.reduceLT, Nat.reduceLeDiff, reduceCtorEq]
        repeat' apply And.intro
        all_goals first | exact True.intro | exact rfl | omega | with_reducible assumption | (simp only [List.length_set, List.length_append, List.length_replicate, List.length_cons, List.length_nil]; omega) | skip
        all_goals first | (refine hK _ ?_; clear hK K) | (simp only [push_cast]; done)
        refine awp_cond rfl (fun hc => ?_) (fun hc => ?_) <;> (try simp only [push_cast] at hc)
        ·
          refine awp_region tyOk tyPos [] rfl ?_
          simp only [push_cast, ↓brB_true, ↓brB_false, ↓reduceIte, Nat.reduceMod, Nat.reduceMul, Nat.reduceDiv, Nat.reduceAdd, Nat.reduceSub, Nat.reduceEqDiff, Nat.reduceBEq, Nat.reduceLT, Nat.reduceLeDiff, reduceCtorEq]
          repeat' apply And.intro
          all_goals first | exact True.intro | exact rfl | omega | with_reducible assumption | (simp only [List.length_set, List.length_append, List.length_replicate, List.length_cons, List.length_nil]; omega) | skip
          (try simp only [AThen, ABlk, reduceIte, Nat.reduceEqDiff]); refine hK4 _ ?_
          refine awp_region tyOk tyPos [] rfl ?_
          simp only [push_cast, ↓brB_true, ↓brB_false, ↓reduceIte, Nat.reduceMod, Nat.reduceMul, Nat.reduceDiv, Nat.reduceAdd, Nat.reduceSub, Nat.reduceEqDiff, Nat.reduceBEq, Nat.reduceLT, Nat.reduceLeDiff, reduceCtorEq]
          repeat' apply And.intro
          all_goals first | exact True.intro | exact rfl | omega | with_reducible assumption | (simp only [List.length_set, List.length_append, List.length_replicate, List.length_cons, List.length_nil]; omega) | skip
          refine hL0 _ ⟨(k + 1, o ++ [gi r k]), ⟨by simp only; omega, by simp only; rw [filt_yes (by omega) (by simp only [decide_eq_false hc, Bool.not_false]), ← ho]⟩, by simp only; omega, ?_⟩
          refine cov_of rfl ?_ ?_ ?_ <;> simp only [covS, covL, push_cast, ↓brB_true, ↓brB_false, ↓reduceIte, Nat.reduceMod, Nat.reduceMul, Nat.reduceDiv, Nat.reduceAdd, Nat.reduceSub, Nat.reduceEqDiff, Nat.reduceBEq, Nat.reduceLT, Nat.reduceLeDiff, reduceCtorEq]
          all_goals (try (rw [List.length_append]; rfl))
          all_goals (try (first | rfl | (simp; done)))
        ·
          refine awp_skip ?_
          (try simp only [AThen, ABlk, reduceIte, Nat.reduceEqDiff]); refine hK4 _ ?_
          refine awp_region tyOk tyPos [] rfl ?_
          simp only [push_cast, ↓brB_true, ↓brB_false, ↓reduceIte, Nat.reduceMod, Nat.reduceMul, Nat.reduceDiv, Nat.reduceAdd, Nat.reduceSub, Nat.reduceEqDiff, Nat.reduceBEq, Nat.reduceLT, Nat.reduceLeDiff, reduceCtorEq]
          repeat' apply And.intro
          all_goals first | exact True.intro | exact rfl | omega | with_reducible assumption | (simp only [List.length_set, List.length_append, List.length_replicate, List.length_cons, List.length_nil]; omega) | skip
          refine hL0 _ ⟨(k + 1, o), ⟨by simp only; omega, by simp only; rw [filt_no (by omega) (by simp only [decide_eq_true hc, Bool.not_true]), ← ho]⟩, by simp only; omega, ?_⟩
          refine cov_of rfl ?_ ?_ ?_ <;> simp only [covS, covL, push_cast, ↓brB_true, ↓brB_false, ↓reduceIte, Nat.reduceMod, Nat.reduceMul, Nat.reduceDiv, Nat.reduceAdd, Nat.reduceSub, Nat.reduceEqDiff, Nat.reduceBEq, Nat.reduceLT, Nat.reduceLeDiff, reduceCtorEq]
          all_goals (try (rw [List.length_append]; rfl))
          all_goals (try (first | rfl | (simp; done)))
      ·
        refine awp_exit ?_
        have hkk : k = r.length := by omega
        subst hkk
        rw [List.take_length] at ho
        (try simp only [AThen, ABlk, reduceIte, Nat.reduceEqDiff]); refine hK2 _ ?_
        refine awp_seq' fun K hK => ?_
        refine awp_region tyOk tyPos [] rfl ?_
        simp only [push_cast, ↓brB_true, ↓brB_false, ↓reduceIte, Nat.reduceMod, Nat.reduceMul, Nat.reduceDiv, Nat.reduceAdd, Nat.reduceSub, Nat.reduceEqDiff, Nat.reduceBEq, Nat.reduceLT, Nat.reduceLeDiff, reduceCtorEq]
        repeat' apply And.intro
        all_goals first | exact True.intro | exact rfl | omega | with_reducible assumption | (simp only [List.length_set, List.length_append, List.length_replicate, List.length_cons, List.length_nil]; omega) | skip
        all_goals first | (refine hK _ ?_; clear hK K) | (simp only [push_cast]; done)
        refine awp_ret ?_
        (try simp only [AThen, ABlk])
        refine ⟨Or.inl rfl, ?_⟩
        simp only [RetOk, push_cast, ↓brB_true, ↓brB_false, ↓reduceIte, Nat.reduceMod, Nat.reduceMul, Nat.reduceDiv, Nat.reduceAdd, Nat.reduceSub, Nat.reduceEqDiff, Nat.reduceBEq, Nat.reduceLT, Nat.reduceLeDiff, reduceCtorEq]
        rw [nextV_yes (by with_reducible assumption)]
        subst ho
        all_goals first | rfl | exact ⟨rfl, rfl⟩ | (simp; done)
set_option maxRecDepth 20000 in
set_option maxHeartbeats 4000000 in
theorem NextVisitsS_fn (f : Fm) (hf : f.Ln 1048576) (r : List Int) (hr : r.length ≤ 1048576) (v : Int) : Fn Try.prog tyT 30 [.agg (dFm f), .c (DI r), .c (.int .i64 v)] [.c (DI (nextRes f r v))] := by
  have h1 := hf.names
  have h2 := hf.sets.1
  unfold LnI at h1
  have hrr : ∀ v, (gl f.sets v).length ≤ 1048576 := fun v => gl_le hf.sets v
  have hA := l18Right_fn f hf r hr v
  have hN := fun h => l18Next_fn r h v
  unfold dFm at hA
  unfold dFm
  refine Fn_of (fn := Try.f30) (ts := [6]) Try.func30 (by kernel_rfl) rfl rfl (by rw [Try.ntmps30]; exact Nat.le_of_ble_eq_true rfl) rfl (by simp only [szA, List.mem_cons, List.not_mem_nil, or_false, forall_eq_or_imp, forall_eq, VT.cells, szL]; try decide) ?_
  rw [Try.ntmps30]
  simp only [push_cast, ↓brB_true, ↓brB_false, ↓reduceIte, Nat.reduceMod, Nat.reduceMul, Nat.reduceDiv, Nat.reduceAdd, Nat.reduceSub, Nat.reduceEqDiff, Nat.reduceBEq, Nat.reduceLT, Nat.reduceLeDiff, reduceCtorEq]
  refine awp_seq' fun K hK => ?_
  refine awp_region tyOk tyPos [] rfl ?_
  simp only [push_cast, ↓brB_true, ↓brB_false, ↓reduceIte, Nat.reduceMod, Nat.reduceMul, Nat.reduceDiv, Nat.reduceAdd, Nat.reduceSub, Nat.reduceEqDiff, Nat.reduceBEq, Nat.reduceLT, Nat.reduceLeDiff, reduceCtorEq]
  repeat' apply And.intro
  all_goals first | exact True.intro | exact rfl | omega | with_reducible assumption | (simp only [List.length_set, List.length_append, List.length_replicate, List.length_cons, List.length_nil]; omega) | skip
  all_goals first | (refine hK _ ?_; clear hK K) | (simp only [push_cast]; done)
  refine awp_seq' fun K1 hK1 => ?_
  refine awp_seq' fun K hK => ?_
  refine awp_region tyOk tyPos [] rfl ?_
  all_goals refine aops_cut 4 fun K9 hK9 => ?_
  all_goals simp only [push_cast, ↓brB_true, ↓brB_false, ↓reduceIte, Nat.reduceMod, Nat.reduceMul, Nat.reduceDiv, Nat.reduceAdd, Nat.reduceSub, Nat.reduceEqDiff, Nat.reduceBEq, Nat.reduceLT, Nat.reduceLeDiff, reduceCtorEq]
  all_goals repeat' (first | (apply brB_mk <;> (intro hg; (try simp only [push_cast] at hg))) | (refine ⟨_, hA, ?_⟩; simp only [push_cast, ↓brB_true, ↓brB_false, ↓reduceIte, Nat.reduceMod, Nat.reduceMul, Nat.reduceDiv, Nat.reduceAdd, Nat.reduceSub, Nat.reduceEqDiff, Nat.reduceBEq, Nat.reduceLT, Nat.reduceLeDiff, reduceCtorEq]) | apply And.intro | (intro hg; (try simp only [push_cast] at hg)))
  all_goals first | exact True.intro | exact rfl | contradiction | omega | with_reducible assumption | skip
  all_goals first | (refine hK9 _ ?_; clear hK9 K9) | (simp only [push_cast]; done)
  all_goals simp only [push_cast, ↓brB_true, ↓brB_false, ↓reduceIte, Nat.reduceMod, Nat.reduceMul, Nat.reduceDiv, Nat.reduceAdd, Nat.reduceSub, Nat.reduceEqDiff, Nat.reduceBEq, Nat.reduceLT, Nat.reduceLeDiff, reduceCtorEq]
  all_goals repeat' (first | (apply brB_mk <;> (intro hg; (try simp only [push_cast] at hg))) | (refine ⟨_, hA, ?_⟩; simp only [push_cast, ↓brB_true, ↓brB_false, ↓reduceIte, Nat.reduceMod, Nat.reduceMul, Nat.reduceDiv, Nat.reduceAdd, Nat.reduceSub, Nat.reduceEqDiff, Nat.reduceBEq, Nat.reduceLT, Nat.reduceLeDiff, reduceCtorEq]) | apply And.intro | (intro hg; (try simp only [push_cast] at hg)))
  all_goals first | exact True.intro | exact rfl | contradiction | omega | with_reducible assumption | skip
  all_goals first | (refine hK _ ?_; clear hK K) | (simp only [push_cast]; done)
  refine awp_cond rfl (fun hc => ?_) (fun hc => ?_) <;> (try simp only [push_cast] at hc)
  ·
    refine awp_seq' fun K hK => ?_
    refine awp_region tyOk tyPos [] rfl ?_
    simp only [push_cast, ↓brB_true, ↓brB_false, ↓reduceIte, Nat.reduceMod, Nat.reduceMul, Nat.reduceDiv, Nat.reduceAdd, Nat.reduceSub, Nat.reduceEqDiff, Nat.reduceBEq, Nat.reduceLT, Nat.reduceLeDiff, reduceCtorEq]
    repeat' apply And.intro
    all_goals first | exact True.intro | exact rfl | omega | with_reducible assumption | (simp only [List.length_set, List.length_append, List.length_replicate, List.length_cons, List.length_nil]; omega) | skip
    all_goals first | (refine hK _ ?_; clear hK K) | (simp only [push_cast]; done)
    refine awp_ret ?_
    (try simp only [AThen, ABlk])
    refine ⟨Or.inl rfl, ?_⟩
    simp only [RetOk, push_cast, ↓brB_true, ↓brB_false, ↓reduceIte, Nat.reduceMod, Nat.reduceMul, Nat.reduceDiv, Nat.reduceAdd, Nat.reduceSub, Nat.reduceEqDiff, Nat.reduceBEq, Nat.reduceLT, Nat.reduceLeDiff, reduceCtorEq]
    rw [nextRes_no (by with_reducible assumption)]
    all_goals first | rfl | exact ⟨rfl, rfl⟩ | (simp [dI]; done)
  ·
    refine awp_skip ?_
    (try simp only [AThen, ABlk, reduceIte, Nat.reduceEqDiff]); refine hK1 _ ?_
    have hrt : rightB f r v = true := by with_reducible assumption
    have hr4 : r.length ≤ 4 := by unfold rightB at hrt; rw [Bool.and_eq_true] at hrt; exact (vis_facts hrt.1).2.2.1
    refine awp_seq' fun K hK => ?_
    refine awp_region tyOk tyPos [] rfl ?_
    all_goals refine aops_cut 3 fun K9 hK9 => ?_
    all_goals simp only [push_cast, ↓brB_true, ↓brB_false, ↓reduceIte, Nat.reduceMod, Nat.reduceMul, Nat.reduceDiv, Nat.reduceAdd, Nat.reduceSub, Nat.reduceEqDiff, Nat.reduceBEq, Nat.reduceLT, Nat.reduceLeDiff, reduceCtorEq]
    all_goals repeat' (first | (apply brB_mk <;> (intro hg; (try simp only [push_cast] at hg))) | (refine ⟨_, hN (by omega), ?_⟩; simp only [push_cast, ↓brB_true, ↓brB_false, ↓reduceIte, Nat.reduceMod, Nat.reduceMul, Nat.reduceDiv, Nat.reduceAdd, Nat.reduceSub, Nat.reduceEqDiff, Nat.reduceBEq, Nat.reduceLT, Nat.reduceLeDiff, reduceCtorEq]) | apply And.intro | (intro hg; (try simp only [push_cast] at hg)))
    all_goals first | exact True.intro | exact rfl | contradiction | omega | with_reducible assumption | skip
    all_goals first | (refine hK9 _ ?_; clear hK9 K9) | (simp only [push_cast]; done)
    all_goals simp only [push_cast, ↓brB_true, ↓brB_false, ↓reduceIte, Nat.reduceMod, Nat.reduceMul, Nat.reduceDiv, Nat.reduceAdd, Nat.reduceSub, Nat.reduceEqDiff, Nat.reduceBEq, Nat.reduceLT, Nat.reduceLeDiff, reduceCtorEq]
    all_goals repeat' (first | (apply brB_mk <;> (intro hg; (try simp only [push_cast] at hg))) | (refine ⟨_, hN (by omega), ?_⟩; simp only [push_cast, ↓brB_true, ↓brB_false, ↓reduceIte, Nat.reduceMod, Nat.reduceMul, Nat.reduceDiv, Nat.reduceAdd, Nat.reduceSub, Nat.reduceEqDiff, Nat.reduceBEq, Nat.reduceLT, Nat.reduceLeDiff, reduceCtorEq]) | apply And.intro | (intro hg; (try simp only [push_cast] at hg)))
    all_goals first | exact True.intro | exact rfl | contradiction | omega | with_reducible assumption | skip
    all_goals first | (refine hK _ ?_; clear hK K) | (simp only [push_cast]; done)
    refine awp_ret ?_
    (try simp only [AThen, ABlk])
    refine ⟨Or.inl rfl, ?_⟩
    simp only [RetOk, push_cast, ↓brB_true, ↓brB_false, ↓reduceIte, Nat.reduceMod, Nat.reduceMul, Nat.reduceDiv, Nat.reduceAdd, Nat.reduceSub, Nat.reduceEqDiff, Nat.reduceBEq, Nat.reduceLT, Nat.reduceLeDiff, reduceCtorEq]
    rw [nextRes_yes hrt]
    all_goals first | rfl | exact ⟨rfl, rfl⟩ | (simp; done)
set_option maxRecDepth 20000 in
set_option maxHeartbeats 4000000 in
theorem visitPrio_fn (f : Fm) (hf : f.Ln 1048576) (r : List Int) (hr : r.length ≤ 1048576) (v : Int) (hv : visB f r = true) : Fn Try.prog tyT 96 [.agg (dFm f), .c (DI r), .c (.int .i64 v)] [.c (.int .i64 (prioV f r v))] := by
  have h1 := hf.names
  have h2 := hf.sets.1
  unfold LnI at h1
  have hrr : ∀ v, (gl f.sets v).length ≤ 1048576 := fun v => gl_le hf.sets v
  have hI := Index_fn r v hr
  have hx := ix_rg r v
  obtain ⟨m9, hm9⟩ : ∃ m9, m9 = (ixB r v + 1).toNat := ⟨_, rfl⟩
  have hsl := sortI_len (r.take m9)
  rw [List.length_take] at hsl
  have hkl : (r.take m9).length = m9 := by rw [List.length_take]; omega
  have hSo := Sort_fn (r.take m9) (by omega)
  have hH := hasSet_fn f h2 hrr (sortI (r.take m9)) (by omega)
  have hset := vis_set hv m9
  unfold dFm at hH
  unfold dFm
  refine Fn_of (fn := Try.f96) (ts := [6]) Try.func96 (by kernel_rfl) rfl rfl (by rw [Try.ntmps96]; exact Nat.le_of_ble_eq_true rfl) rfl (by simp only [szA, List.mem_cons, List.not_mem_nil, or_false, forall_eq_or_imp, forall_eq, VT.cells, szL]; try decide) ?_
  rw [Try.ntmps96]
  simp only [push_cast, ↓brB_true, ↓brB_false, ↓reduceIte, Nat.reduceMod, Nat.reduceMul, Nat.reduceDiv, Nat.reduceAdd, Nat.reduceSub, Nat.reduceEqDiff, Nat.reduceBEq, Nat.reduceLT, Nat.reduceLeDiff, reduceCtorEq]
  refine awp_seq' fun K hK => ?_
  refine awp_region tyOk tyPos [] rfl ?_
  simp only [push_cast, ↓brB_true, ↓brB_false, ↓reduceIte, Nat.reduceMod, Nat.reduceMul, Nat.reduceDiv, Nat.reduceAdd, Nat.reduceSub, Nat.reduceEqDiff, Nat.reduceBEq, Nat.reduceLT, Nat.reduceLeDiff, reduceCtorEq]
  repeat' apply And.intro
  all_goals first | exact True.intro | exact rfl | omega | with_reducible assumption | (simp only [List.length_set, List.length_append, List.length_replicate, List.length_cons, List.length_nil]; omega) | skip
  all_goals first | (refine hK _ ?_; clear hK K) | (simp only [push_cast]; done)
  refine awp_seq' fun K hK => ?_
  refine awp_region tyOk tyPos [] rfl ?_
  all_goals refine aops_cut 3 fun K9 hK9 => ?_
  all_goals simp only [push_cast, ↓brB_true, ↓brB_false, ↓reduceIte, Nat.reduceMod, Nat.reduceMul, Nat.reduceDiv, Nat.reduceAdd, Nat.reduceSub, Nat.reduceEqDiff, Nat.reduceBEq, Nat.reduceLT, Nat.reduceLeDiff, reduceCtorEq]
  all_goals repeat' (first | (apply brB_mk <;> (intro hg; (try simp only [push_cast] at hg))) | (refine ⟨_, hI, ?_⟩; simp only [push_cast, ↓brB_true, ↓brB_false, ↓reduceIte, Nat.reduceMod, Nat.reduceMul, Nat.reduceDiv, Nat.reduceAdd, Nat.reduceSub, Nat.reduceEqDiff, Nat.reduceBEq, Nat.reduceLT, Nat.reduceLeDiff, reduceCtorEq]) | apply And.intro | (intro hg; (try simp only [push_cast] at hg)))
  all_goals first | exact True.intro | exact rfl | contradiction | omega | with_reducible assumption | skip
  all_goals first | (refine hK9 _ ?_; clear hK9 K9) | (simp only [push_cast]; done)
  all_goals simp only [push_cast, ↓brB_true, ↓brB_false, ↓reduceIte, Nat.reduceMod, Nat.reduceMul, Nat.reduceDiv, Nat.reduceAdd, Nat.reduceSub, Nat.reduceEqDiff, Nat.reduceBEq, Nat.reduceLT, Nat.reduceLeDiff, reduceCtorEq]
  all_goals repeat' (first | (apply brB_mk <;> (intro hg; (try simp only [push_cast] at hg))) | (refine ⟨_, hI, ?_⟩; simp only [push_cast, ↓brB_true, ↓brB_false, ↓reduceIte, Nat.reduceMod, Nat.reduceMul, Nat.reduceDiv, Nat.reduceAdd, Nat.reduceSub, Nat.reduceEqDiff, Nat.reduceBEq, Nat.reduceLT, Nat.reduceLeDiff, reduceCtorEq]) | apply And.intro | (intro hg; (try simp only [push_cast] at hg)))
  all_goals first | exact True.intro | exact rfl | contradiction | omega | with_reducible assumption | skip
  all_goals first | (refine hK _ ?_; clear hK K) | (simp only [push_cast]; done)
  refine awp_seq' fun K hK => ?_
  refine awp_region tyOk tyPos [] rfl ?_
  simp only [push_cast, ↓brB_true, ↓brB_false, ↓reduceIte, Nat.reduceMod, Nat.reduceMul, Nat.reduceDiv, Nat.reduceAdd, Nat.reduceSub, Nat.reduceEqDiff, Nat.reduceBEq, Nat.reduceLT, Nat.reduceLeDiff, reduceCtorEq]
  repeat' apply And.intro
  all_goals first | exact True.intro | exact rfl | omega | with_reducible assumption | (simp only [List.length_set, List.length_append, List.length_replicate, List.length_cons, List.length_nil]; omega) | skip
  all_goals first | (refine hK _ ?_; clear hK K) | (simp only [push_cast]; done)
  rw [← hm9]
  (try rw [List.take_of_length_le (l := r.take m9) (by omega)])
  rw [show AV.sl 128 [] 0 m9 2 = AV.sl 128 [] 0 (r.take m9).length 2 from by rw [hkl]]
  refine awp_seq' fun K hK => ?_
  refine awp_regionG 20 [0] [(0, 2, dI (sortI (r.take m9)))] tyOk tyPos [] rfl ?_
  simp only [push_cast, ↓brB_true, ↓brB_false, ↓reduceIte, Nat.reduceMod, Nat.reduceMul, Nat.reduceDiv, Nat.reduceAdd, Nat.reduceSub, Nat.reduceEqDiff, Nat.reduceBEq, Nat.reduceLT, Nat.reduceLeDiff, reduceCtorEq]
  all_goals repeat' (first | (apply brB_mk <;> (intro hg; (try simp only [push_cast] at hg))) | (refine ⟨_, hSo, ?_⟩; simp only [push_cast, ↓brB_true, ↓brB_false, ↓reduceIte, Nat.reduceMod, Nat.reduceMul, Nat.reduceDiv, Nat.reduceAdd, Nat.reduceSub, Nat.reduceEqDiff, Nat.reduceBEq, Nat.reduceLT, Nat.reduceLeDiff, reduceCtorEq]) | apply And.intro | (intro hg; (try simp only [push_cast] at hg)))
  all_goals first | exact True.intro | exact rfl | contradiction | omega | with_reducible assumption | skip
  all_goals first | (refine hK _ ?_; clear hK K) | (simp only [push_cast]; done)
  rw [show AV.sl 128 [] 0 (r.take m9).length 2 = AV.sl 128 [] 0 (sortI (r.take m9)).length 2 from by rw [sortI_len]]
  refine awp_seq' fun K hK => ?_
  refine awp_region tyOk tyPos [] rfl ?_
  simp only [push_cast, ↓brB_true, ↓brB_false, ↓reduceIte, Nat.reduceMod, Nat.reduceMul, Nat.reduceDiv, Nat.reduceAdd, Nat.reduceSub, Nat.reduceEqDiff, Nat.reduceBEq, Nat.reduceLT, Nat.reduceLeDiff, reduceCtorEq]
  repeat' apply And.intro
  all_goals first | exact True.intro | exact rfl | omega | with_reducible assumption | (simp only [List.length_set, List.length_append, List.length_replicate, List.length_cons, List.length_nil]; omega) | skip
  all_goals first | (refine hK _ ?_; clear hK K) | (simp only [push_cast]; done)
  refine awp_seq' fun K1 hK1 => ?_
  refine awp_seq' fun K hK => ?_
  refine awp_region tyOk tyPos [] rfl ?_
  simp only [push_cast, ↓brB_true, ↓brB_false, ↓reduceIte, Nat.reduceMod, Nat.reduceMul, Nat.reduceDiv, Nat.reduceAdd, Nat.reduceSub, Nat.reduceEqDiff, Nat.reduceBEq, Nat.reduceLT, Nat.reduceLeDiff, reduceCtorEq]
  repeat' apply And.intro
  all_goals first | exact True.intro | exact rfl | omega | with_reducible assumption | (simp only [List.length_set, List.length_append, List.length_replicate, List.length_cons, List.length_nil]; omega) | skip
  all_goals first | (refine hK _ ?_; clear hK K) | (simp only [push_cast]; done)
  refine awp_cond rfl (fun hc => ?_) (fun hc => ?_) <;> (try simp only [push_cast] at hc)
  ·
    refine awp_seq' fun K hK => ?_
    refine awp_region tyOk tyPos [] rfl ?_
    simp only [push_cast, ↓brB_true, ↓brB_false, ↓reduceIte, Nat.reduceMod, Nat.reduceMul, Nat.reduceDiv, Nat.reduceAdd, Nat.reduceSub, Nat.reduceEqDiff, Nat.reduceBEq, Nat.reduceLT, Nat.reduceLeDiff, reduceCtorEq]
    repeat' apply And.intro
    all_goals first | exact True.intro | exact rfl | omega | with_reducible assumption | (simp only [List.length_set, List.length_append, List.length_replicate, List.length_cons, List.length_nil]; omega) | skip
    all_goals first | (refine hK _ ?_; clear hK K) | (simp only [push_cast]; done)
    refine awp_seq' fun K2 hK2 => ?_
    refine awp_seq' fun K hK => ?_
    refine awp_region tyOk tyPos [] rfl ?_
    all_goals refine aops_cut 3 fun K9 hK9 => ?_
    all_goals simp only [push_cast, ↓brB_true, ↓brB_false, ↓reduceIte, Nat.reduceMod, Nat.reduceMul, Nat.reduceDiv, Nat.reduceAdd, Nat.reduceSub, Nat.reduceEqDiff, Nat.reduceBEq, Nat.reduceLT, Nat.reduceLeDiff, reduceCtorEq]
    all_goals repeat' (first | (apply brB_mk <;> (intro hg; (try simp only [push_cast] at hg))) | (refine ⟨_, hH, ?_⟩; simp only [push_cast, ↓brB_true, ↓brB_false, ↓reduceIte, Nat.reduceMod, Nat.reduceMul, Nat.reduceDiv, Nat.reduceAdd, Nat.reduceSub, Nat.reduceEqDiff, Nat.reduceBEq, Nat.reduceLT, Nat.reduceLeDiff, reduceCtorEq]) | apply And.intro | (intro hg; (try simp only [push_cast] at hg)))
    all_goals first | exact True.intro | exact rfl | contradiction | omega | with_reducible assumption | skip
    all_goals first | (refine hK9 _ ?_; clear hK9 K9) | (simp only [push_cast]; done)
    all_goals simp only [push_cast, ↓brB_true, ↓brB_false, ↓reduceIte, Nat.reduceMod, Nat.reduceMul, Nat.reduceDiv, Nat.reduceAdd, Nat.reduceSub, Nat.reduceEqDiff, Nat.reduceBEq, Nat.reduceLT, Nat.reduceLeDiff, reduceCtorEq]
    all_goals repeat' (first | (apply brB_mk <;> (intro hg; (try simp only [push_cast] at hg))) | (refine ⟨_, hH, ?_⟩; simp only [push_cast, ↓brB_true, ↓brB_false, ↓reduceIte, Nat.reduceMod, Nat.reduceMul, Nat.reduceDiv, Nat.reduceAdd, Nat.reduceSub, Nat.reduceEqDiff, Nat.reduceBEq, Nat.reduceLT, Nat.reduceLeDiff, reduceCtorEq]) | apply And.intro | (intro hg; (try simp only [push_cast] at hg)))
    all_goals first | exact True.intro | exact rfl | contradiction | omega | with_reducible assumption | skip
    all_goals first | (refine hK _ ?_; clear hK K) | (simp only [push_cast]; done)
    refine awp_cond rfl (fun hc => ?_) (fun hc => ?_) <;> (try simp only [push_cast] at hc)
    ·
      refine awp_seq' fun K hK => ?_
      refine awp_region tyOk tyPos [] rfl ?_
      simp only [push_cast, ↓brB_true, ↓brB_false, ↓reduceIte, Nat.reduceMod, Nat.reduceMul, Nat.reduceDiv, Nat.reduceAdd, Nat.reduceSub, Nat.reduceEqDiff, Nat.reduceBEq, Nat.reduceLT, Nat.reduceLeDiff, reduceCtorEq]
      repeat' apply And.intro
      all_goals first | exact True.intro | exact rfl | omega | with_reducible assumption | (simp only [List.length_set, List.length_append, List.length_replicate, List.length_cons, List.length_nil]; omega) | skip
      all_goals first | (refine hK _ ?_; clear hK K) | (simp only [push_cast]; done)
      refine awp_ret ?_
      (try simp only [AThen, ABlk])
      refine ⟨Or.inl rfl, ?_⟩
      simp only [RetOk, push_cast, ↓brB_true, ↓brB_false, ↓reduceIte, Nat.reduceMod, Nat.reduceMul, Nat.reduceDiv, Nat.reduceAdd, Nat.reduceSub, Nat.reduceEqDiff, Nat.reduceBEq, Nat.reduceLT, Nat.reduceLeDiff, reduceCtorEq]
      all_goals exact prioV_none0 (by omega) hm9 hset (by with_reducible assumption)
    ·
      refine awp_skip ?_
      (try simp only [AThen, ABlk, reduceIte, Nat.reduceEqDiff]); refine hK2 _ ?_
      refine awp_seq' fun K hK => ?_
      refine awp_region tyOk tyPos [] rfl ?_
      simp only [push_cast, ↓brB_true, ↓brB_false, ↓reduceIte, Nat.reduceMod, Nat.reduceMul, Nat.reduceDiv, Nat.reduceAdd, Nat.reduceSub, Nat.reduceEqDiff, Nat.reduceBEq, Nat.reduceLT, Nat.reduceLeDiff, reduceCtorEq]
      repeat' apply And.intro
      all_goals first | exact True.intro | exact rfl | omega | with_reducible assumption | (simp only [List.length_set, List.length_append, List.length_replicate, List.length_cons, List.length_nil]; omega) | skip
      all_goals first | (refine hK _ ?_; clear hK K) | (simp only [push_cast]; done)
      refine awp_ret ?_
      (try simp only [AThen, ABlk])
      refine ⟨Or.inl rfl, ?_⟩
      simp only [RetOk, push_cast, ↓brB_true, ↓brB_false, ↓reduceIte, Nat.reduceMod, Nat.reduceMul, Nat.reduceDiv, Nat.reduceAdd, Nat.reduceSub, Nat.reduceEqDiff, Nat.reduceBEq, Nat.reduceLT, Nat.reduceLeDiff, reduceCtorEq]
      all_goals exact prioV_none1 (by omega) hm9 hset (by with_reducible assumption)
  ·
    refine awp_skip ?_
    (try simp only [AThen, ABlk, reduceIte, Nat.reduceEqDiff]); refine hK1 _ ?_
    refine awp_seq' fun K3 hK3 => ?_
    refine awp_seq' fun K hK => ?_
    refine awp_region tyOk tyPos [] rfl ?_
    all_goals refine aops_cut 3 fun K9 hK9 => ?_
    all_goals simp only [push_cast, ↓brB_true, ↓brB_false, ↓reduceIte, Nat.reduceMod, Nat.reduceMul, Nat.reduceDiv, Nat.reduceAdd, Nat.reduceSub, Nat.reduceEqDiff, Nat.reduceBEq, Nat.reduceLT, Nat.reduceLeDiff, reduceCtorEq]
    all_goals repeat' (first | (apply brB_mk <;> (intro hg; (try simp only [push_cast] at hg))) | (refine ⟨_, hH, ?_⟩; simp only [push_cast, ↓brB_true, ↓brB_false, ↓reduceIte, Nat.reduceMod, Nat.reduceMul, Nat.reduceDiv, Nat.reduceAdd, Nat.reduceSub, Nat.reduceEqDiff, Nat.reduceBEq, Nat.reduceLT, Nat.reduceLeDiff, reduceCtorEq]) | apply And.intro | (intro hg; (try simp only [push_cast] at hg)))
    all_goals first | exact True.intro | exact rfl | contradiction | omega | with_reducible assumption | skip
    all_goals first | (refine hK9 _ ?_; clear hK9 K9) | (simp only [push_cast]; done)
    all_goals simp only [push_cast, ↓brB_true, ↓brB_false, ↓reduceIte, Nat.reduceMod, Nat.reduceMul, Nat.reduceDiv, Nat.reduceAdd, Nat.reduceSub, Nat.reduceEqDiff, Nat.reduceBEq, Nat.reduceLT, Nat.reduceLeDiff, reduceCtorEq]
    all_goals repeat' (first | (apply brB_mk <;> (intro hg; (try simp only [push_cast] at hg))) | (refine ⟨_, hH, ?_⟩; simp only [push_cast, ↓brB_true, ↓brB_false, ↓reduceIte, Nat.reduceMod, Nat.reduceMul, Nat.reduceDiv, Nat.reduceAdd, Nat.reduceSub, Nat.reduceEqDiff, Nat.reduceBEq, Nat.reduceLT, Nat.reduceLeDiff, reduceCtorEq]) | apply And.intro | (intro hg; (try simp only [push_cast] at hg)))
    all_goals first | exact True.intro | exact rfl | contradiction | omega | with_reducible assumption | skip
    all_goals first | (refine hK _ ?_; clear hK K) | (simp only [push_cast]; done)
    refine awp_cond rfl (fun hc => ?_) (fun hc => ?_) <;> (try simp only [push_cast] at hc)
    ·
      refine awp_region tyOk tyPos [] rfl ?_
      simp only [push_cast, ↓brB_true, ↓brB_false, ↓reduceIte, Nat.reduceMod, Nat.reduceMul, Nat.reduceDiv, Nat.reduceAdd, Nat.reduceSub, Nat.reduceEqDiff, Nat.reduceBEq, Nat.reduceLT, Nat.reduceLeDiff, reduceCtorEq]
      repeat' apply And.intro
      all_goals first | exact True.intro | exact rfl | omega | with_reducible assumption | (simp only [List.length_set, List.length_append, List.length_replicate, List.length_cons, List.length_nil]; omega) | skip
      (try simp only [AThen, ABlk, reduceIte, Nat.reduceEqDiff]); refine hK3 _ ?_
      refine awp_seq' fun K hK => ?_
      refine awp_region tyOk tyPos [] rfl ?_
      simp only [push_cast, ↓brB_true, ↓brB_false, ↓reduceIte, Nat.reduceMod, Nat.reduceMul, Nat.reduceDiv, Nat.reduceAdd, Nat.reduceSub, Nat.reduceEqDiff, Nat.reduceBEq, Nat.reduceLT, Nat.reduceLeDiff, reduceCtorEq]
      repeat' apply And.intro
      all_goals first | exact True.intro | exact rfl | omega | with_reducible assumption | (simp only [List.length_set, List.length_append, List.length_replicate, List.length_cons, List.length_nil]; omega) | skip
      all_goals first | (refine hK _ ?_; clear hK K) | (simp only [push_cast]; done)
      refine awp_ret ?_
      (try simp only [AThen, ABlk])
      refine ⟨Or.inl rfl, ?_⟩
      simp only [RetOk, push_cast, ↓brB_true, ↓brB_false, ↓reduceIte, Nat.reduceMod, Nat.reduceMul, Nat.reduceDiv, Nat.reduceAdd, Nat.reduceSub, Nat.reduceEqDiff, Nat.reduceBEq, Nat.reduceLT, Nat.reduceLeDiff, reduceCtorEq]
      all_goals first | exact prioV_some2 (by omega) hm9 hset (by with_reducible assumption) | exact prioV_some1 (by omega) hm9 hset (by with_reducible assumption)
    ·
      refine awp_skip ?_
      (try simp only [AThen, ABlk, reduceIte, Nat.reduceEqDiff]); refine hK3 _ ?_
      refine awp_seq' fun K hK => ?_
      refine awp_region tyOk tyPos [] rfl ?_
      simp only [push_cast, ↓brB_true, ↓brB_false, ↓reduceIte, Nat.reduceMod, Nat.reduceMul, Nat.reduceDiv, Nat.reduceAdd, Nat.reduceSub, Nat.reduceEqDiff, Nat.reduceBEq, Nat.reduceLT, Nat.reduceLeDiff, reduceCtorEq]
      repeat' apply And.intro
      all_goals first | exact True.intro | exact rfl | omega | with_reducible assumption | (simp only [List.length_set, List.length_append, List.length_replicate, List.length_cons, List.length_nil]; omega) | skip
      all_goals first | (refine hK _ ?_; clear hK K) | (simp only [push_cast]; done)
      refine awp_ret ?_
      (try simp only [AThen, ABlk])
      refine ⟨Or.inl rfl, ?_⟩
      simp only [RetOk, push_cast, ↓brB_true, ↓brB_false, ↓reduceIte, Nat.reduceMod, Nat.reduceMul, Nat.reduceDiv, Nat.reduceAdd, Nat.reduceSub, Nat.reduceEqDiff, Nat.reduceBEq, Nat.reduceLT, Nat.reduceLeDiff, reduceCtorEq]
      all_goals first | exact prioV_some2 (by omega) hm9 hset (by with_reducible assumption) | exact prioV_some1 (by omega) hm9 hset (by with_reducible assumption)
theorem prioV_at {f : Fm} {r : List Int} {v : Int} {k : Nat} (hk : k < r.length) (h : ∀ j, j < k → ¬ gi r j = v) (he : gi r k = v) : prioV f r v = 2 * k + (if oneB f.sets (meetI f.names (r.take (k + 1))) then 2 else 1) := by
  have hf : fidx r v = k := fidx_at hk h he
  unfold prioV
  rw [hasB_fidx, hf, decide_eq_true hk]
  rfl
theorem prioV_none {f : Fm} {r : List Int} {v : Int} (h : ∀ j, j < r.length → ¬ gi r j = v) : prioV f r v = if oneB f.sets [] then 0 else 1 := by
  unfold prioV
  rw [hasB_fidx, fidx_none h, decide_eq_false (by omega)]
  rfl
set_option maxRecDepth 20000 in
set_option maxHeartbeats 4000000 in
theorem VisitPrioI_fn (f : Fm) (hf : f.Ln 1048576) (r : List Int) (hr : r.length ≤ 1048576) (v : Int) : Fn Try.prog tyT 29 [.agg (dFm f), .c (DI r), .c (.int .i64 v)] [.c (.int .i64 (prioRes f r v))] := by
  have h1 := hf.names
  have h2 := hf.sets.1
  unfold LnI at h1
  have hrr : ∀ v, (gl f.sets v).length ≤ 1048576 := fun v => gl_le hf.sets v
  have hA := isVisits_fn f hf r hr
  have hN := visitPrio_fn f hf r hr v
  unfold dFm at hA hN
  unfold dFm
  refine Fn_of (fn := Try.f29) (ts := [6]) Try.func29 (by kernel_rfl) rfl rfl (by rw [Try.ntmps29]; exact Nat.le_of_ble_eq_true rfl) rfl (by simp only [szA, List.mem_cons, List.not_mem_nil, or_false, forall_eq_or_imp, forall_eq, VT.cells, szL]; try decide) ?_
  rw [Try.ntmps29]
  simp only [push_cast, ↓brB_true, ↓brB_false, ↓reduceIte, Nat.reduceMod, Nat.reduceMul, Nat.reduceDiv, Nat.reduceAdd, Nat.reduceSub, Nat.reduceEqDiff, Nat.reduceBEq, Nat.reduceLT, Nat.reduceLeDiff, reduceCtorEq]
  refine awp_seq' fun K hK => ?_
  refine awp_region tyOk tyPos [] rfl ?_
  simp only [push_cast, ↓brB_true, ↓brB_false, ↓reduceIte, Nat.reduceMod, Nat.reduceMul, Nat.reduceDiv, Nat.reduceAdd, Nat.reduceSub, Nat.reduceEqDiff, Nat.reduceBEq, Nat.reduceLT, Nat.reduceLeDiff, reduceCtorEq]
  repeat' apply And.intro
  all_goals first | exact True.intro | exact rfl | omega | with_reducible assumption | (simp only [List.length_set, List.length_append, List.length_replicate, List.length_cons, List.length_nil]; omega) | skip
  all_goals first | (refine hK _ ?_; clear hK K) | (simp only [push_cast]; done)
  refine awp_seq' fun K1 hK1 => ?_
  refine awp_seq' fun K hK => ?_
  refine awp_regionN false tyOk tyPos ?_ rfl ?_
  · kernel_rfl
  all_goals refine seqE_cut 3 fun K9 hK9 => ?_
  all_goals simp only [push_cast, ↓brB_true, ↓brB_false, ↓reduceIte, Nat.reduceMod, Nat.reduceMul, Nat.reduceDiv, Nat.reduceAdd, Nat.reduceSub, Nat.reduceEqDiff, Nat.reduceBEq, Nat.reduceLT, Nat.reduceLeDiff, reduceCtorEq]
  all_goals repeat' (first | (apply brB_mk <;> (intro hg; (try simp only [push_cast] at hg))) | (refine ⟨_, hA, ?_⟩; simp only [push_cast, ↓brB_true, ↓brB_false, ↓reduceIte, Nat.reduceMod, Nat.reduceMul, Nat.reduceDiv, Nat.reduceAdd, Nat.reduceSub, Nat.reduceEqDiff, Nat.reduceBEq, Nat.reduceLT, Nat.reduceLeDiff, reduceCtorEq]) | apply And.intro | (intro hg; (try simp only [push_cast] at hg)))
  all_goals first | exact True.intro | exact rfl | contradiction | omega | with_reducible assumption | skip
  all_goals first | (refine hK9 _ ?_; clear hK9 K9) | (simp only [push_cast]; done)
  all_goals simp only [push_cast, ↓brB_true, ↓brB_false, ↓reduceIte, Nat.reduceMod, Nat.reduceMul, Nat.reduceDiv, Nat.reduceAdd, Nat.reduceSub, Nat.reduceEqDiff, Nat.reduceBEq, Nat.reduceLT, Nat.reduceLeDiff, reduceCtorEq]
  all_goals repeat' (first | (apply brB_mk <;> (intro hg; (try simp only [push_cast] at hg))) | (refine ⟨_, hA, ?_⟩; simp only [push_cast, ↓brB_true, ↓brB_false, ↓reduceIte, Nat.reduceMod, Nat.reduceMul, Nat.reduceDiv, Nat.reduceAdd, Nat.reduceSub, Nat.reduceEqDiff, Nat.reduceBEq, Nat.reduceLT, Nat.reduceLeDiff, reduceCtorEq]) | apply And.intro | (intro hg; (try simp only [push_cast] at hg)))
  all_goals first | exact True.intro | exact rfl | contradiction | omega | with_reducible assumption | skip
  all_goals first | (refine hK _ ?_; clear hK K) | (simp only [push_cast]; done)
  all_goals refine awp_cond rfl (fun hc => ?_) (fun hc => ?_)
  all_goals (first | (cases hc; done) | skip)
  all_goals (try simp only [push_cast] at hc)
  all_goals try (
      refine awp_seq' fun K hK => ?_
      refine awp_region tyOk tyPos [] rfl ?_
      simp only [push_cast, ↓brB_true, ↓brB_false, ↓reduceIte, Nat.reduceMod, Nat.reduceMul, Nat.reduceDiv, Nat.reduceAdd, Nat.reduceSub, Nat.reduceEqDiff, Nat.reduceBEq, Nat.reduceLT, Nat.reduceLeDiff, reduceCtorEq]
      repeat' apply And.intro
      all_goals first | exact True.intro | exact rfl | omega | with_reducible assumption | (simp only [List.length_set, List.length_append, List.length_replicate, List.length_cons, List.length_nil]; omega) | skip
      all_goals first | (refine hK _ ?_; clear hK K) | (simp only [push_cast]; done)
      refine awp_ret ?_
      (try simp only [AThen, ABlk])
      refine ⟨Or.inl rfl, ?_⟩
      simp only [RetOk, push_cast, ↓brB_true, ↓brB_false, ↓reduceIte, Nat.reduceMod, Nat.reduceMul, Nat.reduceDiv, Nat.reduceAdd, Nat.reduceSub, Nat.reduceEqDiff, Nat.reduceBEq, Nat.reduceLT, Nat.reduceLeDiff, reduceCtorEq]
      rw [prioRes_no (by first | exact rightB_no1 (by with_reducible assumption) | exact rightB_no2 (by omega))]
      done)
  refine awp_skip ?_
  (try simp only [AThen, ABlk, reduceIte, Nat.reduceEqDiff]); refine hK1 _ ?_
  have hok : visB f r = true := by with_reducible assumption
  have hrt : rightB f r v = true := rightB_yes hok (by omega)
  refine awp_seq' fun K hK => ?_
  refine awp_region tyOk tyPos [] rfl ?_
  all_goals refine aops_cut 4 fun K9 hK9 => ?_
  all_goals simp only [push_cast, ↓brB_true, ↓brB_false, ↓reduceIte, Nat.reduceMod, Nat.reduceMul, Nat.reduceDiv, Nat.reduceAdd, Nat.reduceSub, Nat.reduceEqDiff, Nat.reduceBEq, Nat.reduceLT, Nat.reduceLeDiff, reduceCtorEq]
  all_goals repeat' (first | (apply brB_mk <;> (intro hg; (try simp only [push_cast] at hg))) | (refine ⟨_, hN hok, ?_⟩; simp only [push_cast, ↓brB_true, ↓brB_false, ↓reduceIte, Nat.reduceMod, Nat.reduceMul, Nat.reduceDiv, Nat.reduceAdd, Nat.reduceSub, Nat.reduceEqDiff, Nat.reduceBEq, Nat.reduceLT, Nat.reduceLeDiff, reduceCtorEq]) | apply And.intro | (intro hg; (try simp only [push_cast] at hg)))
  all_goals first | exact True.intro | exact rfl | contradiction | omega | with_reducible assumption | skip
  all_goals first | (refine hK9 _ ?_; clear hK9 K9) | (simp only [push_cast]; done)
  all_goals simp only [push_cast, ↓brB_true, ↓brB_false, ↓reduceIte, Nat.reduceMod, Nat.reduceMul, Nat.reduceDiv, Nat.reduceAdd, Nat.reduceSub, Nat.reduceEqDiff, Nat.reduceBEq, Nat.reduceLT, Nat.reduceLeDiff, reduceCtorEq]
  all_goals repeat' (first | (apply brB_mk <;> (intro hg; (try simp only [push_cast] at hg))) | (refine ⟨_, hN hok, ?_⟩; simp only [push_cast, ↓brB_true, ↓brB_false, ↓reduceIte, Nat.reduceMod, Nat.reduceMul, Nat.reduceDiv, Nat.reduceAdd, Nat.reduceSub, Nat.reduceEqDiff, Nat.reduceBEq, Nat.reduceLT, Nat.reduceLeDiff, reduceCtorEq]) | apply And.intro | (intro hg; (try simp only [push_cast] at hg)))
  all_goals first | exact True.intro | exact rfl | contradiction | omega | with_reducible assumption | skip
  all_goals first | (refine hK _ ?_; clear hK K) | (simp only [push_cast]; done)
  refine awp_ret ?_
  (try simp only [AThen, ABlk])
  refine ⟨Or.inl rfl, ?_⟩
  simp only [RetOk, push_cast, ↓brB_true, ↓brB_false, ↓reduceIte, Nat.reduceMod, Nat.reduceMul, Nat.reduceDiv, Nat.reduceAdd, Nat.reduceSub, Nat.reduceEqDiff, Nat.reduceBEq, Nat.reduceLT, Nat.reduceLeDiff, reduceCtorEq]
  rw [prioRes_yes hrt]
set_option maxRecDepth 20000 in
set_option maxHeartbeats 4000000 in
theorem l18Prio_fn (f : Fm) (hf : f.Ln 1048576) (r : List Int) (hr : r.length ≤ 1048576) (v : Int) : Fn Try.prog tyT 95 [.agg (dFm f), .c (DI r), .c (.int .i64 v)] [.c (.int .i64 (prioV f r v))] := by
  have h1 := hf.names
  have h2 := hf.sets.1
  unfold LnI at h1
  have hrr : ∀ v, (gl f.sets v).length ≤ 1048576 := fun v => gl_le hf.sets v
  have hO := fun k => l18Of_fn f.names (r.take k) h1 (by rw [List.length_take]; omega)
  have hH := fun t ht => l18One_fn f h2 hrr t ht
  unfold dFm at hH
  unfold dFm
  refine Fn_of (fn := Try.f95) (ts := [6]) Try.func95 (by kernel_rfl) rfl rfl (by rw [Try.ntmps95]; exact Nat.le_of_ble_eq_true rfl) rfl (by simp only [szA, List.mem_cons, List.not_mem_nil, or_false, forall_eq_or_imp, forall_eq, VT.cells, szL]; try decide) ?_
  rw [Try.ntmps95]
  simp only [push_cast, ↓brB_true, ↓brB_false, ↓reduceIte, Nat.reduceMod, Nat.reduceMul, Nat.reduceDiv, Nat.reduceAdd, Nat.reduceSub, Nat.reduceEqDiff, Nat.reduceBEq, Nat.reduceLT, Nat.reduceLeDiff, reduceCtorEq]
  refine awp_seq' fun K hK => ?_
  refine awp_region tyOk tyPos [] rfl ?_
  simp only [push_cast, ↓brB_true, ↓brB_false, ↓reduceIte, Nat.reduceMod, Nat.reduceMul, Nat.reduceDiv, Nat.reduceAdd, Nat.reduceSub, Nat.reduceEqDiff, Nat.reduceBEq, Nat.reduceLT, Nat.reduceLeDiff, reduceCtorEq]
  repeat' apply And.intro
  all_goals first | exact True.intro | exact rfl | omega | with_reducible assumption | (simp only [List.length_set, List.length_append, List.length_replicate, List.length_cons, List.length_nil]; omega) | skip
  all_goals first | (refine hK _ ?_; clear hK K) | (simp only [push_cast]; done)
  refine awp_seq' fun K1 hK1 => ?_
  refine awp_seq' fun K hK => ?_
  refine awp_region tyOk tyPos [] rfl ?_
  simp only [push_cast, ↓brB_true, ↓brB_false, ↓reduceIte, Nat.reduceMod, Nat.reduceMul, Nat.reduceDiv, Nat.reduceAdd, Nat.reduceSub, Nat.reduceEqDiff, Nat.reduceBEq, Nat.reduceLT, Nat.reduceLeDiff, reduceCtorEq]
  repeat' apply And.intro
  all_goals first | exact True.intro | exact rfl | omega | with_reducible assumption | (simp only [List.length_set, List.length_append, List.length_replicate, List.length_cons, List.length_nil]; omega) | skip
  all_goals first | (refine hK _ ?_; clear hK K) | (simp only [push_cast]; done)
  refine awp_block ?_
  refine awp_loopU [6,7,8,9,10,11,12,13,14,15,16,17,18,19,20,21,22,23,24,25,26,27,28,29,30,31,32,33,34] [] (fun (k : Nat) => [(7, .int .i64 k)]) (fun k => []) (fun k => []) (fun k => k ≤ r.length ∧ ∀ j, j < k → ¬ gi r j = v) (fun k => r.length - k) 0 ?_ ⟨by omega, fun j hj => by omega⟩ ?_
  ·
    refine cov_of rfl ?_ ?_ ?_ <;> simp only [covS, covL, push_cast, ↓brB_true, ↓brB_false, ↓reduceIte, Nat.reduceMod, Nat.reduceMul, Nat.reduceDiv, Nat.reduceAdd, Nat.reduceSub, Nat.reduceEqDiff, Nat.reduceBEq, Nat.reduceLT, Nat.reduceLeDiff, reduceCtorEq]
  · rintro k ⟨hk, hall⟩ KL0 hL0
    simp only [push_cast, ↓brB_true, ↓brB_false, ↓reduceIte, Nat.reduceMod, Nat.reduceMul, Nat.reduceDiv, Nat.reduceAdd, Nat.reduceSub, Nat.reduceEqDiff, Nat.reduceBEq, Nat.reduceLT, Nat.reduceLeDiff, reduceCtorEq]
    refine awp_seq' fun K2 hK2 => ?_
    refine awp_seq' fun K hK => ?_
    refine awp_region tyOk tyPos [] rfl ?_
    simp only [push_cast, ↓brB_true, ↓brB_false, ↓reduceIte, Nat.reduceMod, Nat.reduceMul, Nat.reduceDiv, Nat.reduceAdd, Nat.reduceSub, Nat.reduceEqDiff, Nat.reduceBEq, Nat.reduceLT, Nat.reduceLeDiff, reduceCtorEq]
    repeat' apply And.intro
    all_goals first | exact True.intro | exact rfl | omega | with_reducible assumption | (simp only [List.length_set, List.length_append, List.length_replicate, List.length_cons, List.length_nil]; omega) | skip
    all_goals first | (refine hK _ ?_; clear hK K) | (simp only [push_cast]; done)
    refine awp_cond rfl (fun hc => ?_) (fun hc => ?_) <;> (try simp only [push_cast] at hc)
    ·
      refine awp_skip ?_
      (try simp only [AThen, ABlk, reduceIte, Nat.reduceEqDiff]); refine hK2 _ ?_
      refine awp_seq' fun K3 hK3 => ?_
      refine awp_block ?_
      refine awp_seq' fun K hK => ?_
      refine awp_region tyOk tyPos [] rfl ?_
      simp only [push_cast, ↓brB_true, ↓brB_false, ↓reduceIte, Nat.reduceMod, Nat.reduceMul, Nat.reduceDiv, Nat.reduceAdd, Nat.reduceSub, Nat.reduceEqDiff, Nat.reduceBEq, Nat.reduceLT, Nat.reduceLeDiff, reduceCtorEq]
      repeat' apply And.intro
      all_goals first | exact True.intro | exact rfl | omega | with_reducible assumption | (simp only [List.length_set, List.length_append, List.length_replicate, List.length_cons, List.length_nil]; omega) | skip
      all_goals first | (refine hK _ ?_; clear hK K) | (simp only [push_cast]; done)
      refine awp_cond rfl (fun hc => ?_) (fun hc => ?_) <;> (try simp only [push_cast] at hc)
      ·
        refine awp_seq' fun K4 hK4 => ?_
        refine awp_seq' fun K hK => ?_
        refine awp_regionD1 false tyOk tyPos tyMix ?_ rfl ?_
        · kernel_rfl
        intro E hE
        all_goals refine lexF_cut 8 (by decide) fun K9 hK9 => ?_
        all_goals simp only [push_cast, ↓brB_true, ↓brB_false, ↓reduceIte, Nat.reduceMod, Nat.reduceMul, Nat.reduceDiv, Nat.reduceAdd, Nat.reduceSub, Nat.reduceEqDiff, Nat.reduceBEq, Nat.reduceLT, Nat.reduceLeDiff, reduceCtorEq]
        all_goals repeat' (first | (apply brB_mk <;> (intro hg; (try simp only [push_cast] at hg))) | (refine ⟨_, hO (k + 1), ?_⟩; simp only [push_cast, ↓brB_true, ↓brB_false, ↓reduceIte, Nat.reduceMod, Nat.reduceMul, Nat.reduceDiv, Nat.reduceAdd, Nat.reduceSub, Nat.reduceEqDiff, Nat.reduceBEq, Nat.reduceLT, Nat.reduceLeDiff, reduceCtorEq]) | apply And.intro | (intro hg; (try simp only [push_cast] at hg)))
        all_goals first | exact True.intro | exact rfl | contradiction | omega | with_reducible assumption | skip
        all_goals first | (refine hK9 _ _ ?_; clear hK9 K9) | (simp only [push_cast]; done)
        all_goals refine lexF_cut 1 (by decide) fun K9 hK9 => ?_
        all_goals simp only [push_cast, ↓brB_true, ↓brB_false, ↓reduceIte, Nat.reduceMod, Nat.reduceMul, Nat.reduceDiv, Nat.reduceAdd, Nat.reduceSub, Nat.reduceEqDiff, Nat.reduceBEq, Nat.reduceLT, Nat.reduceLeDiff, reduceCtorEq]
        all_goals repeat' (first | (apply brB_mk <;> (intro hg; (try simp only [push_cast] at hg))) | (refine ⟨_, hH (meetI f.names (r.take (k + 1))) (Nat.le_trans (meetI_le _ _) h1), ?_⟩; simp only [push_cast, ↓brB_true, ↓brB_false, ↓reduceIte, Nat.reduceMod, Nat.reduceMul, Nat.reduceDiv, Nat.reduceAdd, Nat.reduceSub, Nat.reduceEqDiff, Nat.reduceBEq, Nat.reduceLT, Nat.reduceLeDiff, reduceCtorEq]) | apply And.intro | (intro hg; (try simp only [push_cast] at hg)))
        all_goals first | exact True.intro | exact rfl | contradiction | omega | with_reducible assumption | skip
        all_goals first | (refine hK9 _ _ ?_; clear hK9 K9) | (simp only [push_cast]; done)
        all_goals simp only [push_cast, ↓brB_true, ↓brB_false, ↓reduceIte, Nat.reduceMod, Nat.reduceMul, Nat.reduceDiv, Nat.reduceAdd, Nat.reduceSub, Nat.reduceEqDiff, Nat.reduceBEq, Nat.reduceLT, Nat.reduceLeDiff, reduceCtorEq]
        all_goals repeat' (first | (apply brB_mk <;> (intro hg; (try simp only [push_cast] at hg))) | (refine ⟨_, hO (k + 1), ?_⟩; simp only [push_cast, ↓brB_true, ↓brB_false, ↓reduceIte, Nat.reduceMod, Nat.reduceMul, Nat.reduceDiv, Nat.reduceAdd, Nat.reduceSub, Nat.reduceEqDiff, Nat.reduceBEq, Nat.reduceLT, Nat.reduceLeDiff, reduceCtorEq]) | (refine ⟨_, hH (meetI f.names (r.take (k + 1))) (Nat.le_trans (meetI_le _ _) h1), ?_⟩; simp only [push_cast, ↓brB_true, ↓brB_false, ↓reduceIte, Nat.reduceMod, Nat.reduceMul, Nat.reduceDiv, Nat.reduceAdd, Nat.reduceSub, Nat.reduceEqDiff, Nat.reduceBEq, Nat.reduceLT, Nat.reduceLeDiff, reduceCtorEq]) | apply And.intro | (intro hg; (try simp only [push_cast] at hg)))
        all_goals first | exact True.intro | exact rfl | contradiction | omega | with_reducible assumption | (refine hE _ _ ?_ ?_; kernel_rfl) | skip
        all_goals clear hE E
        all_goals first | (refine hK _ ?_; clear hK K) | (simp only [push_cast]; done)
        refine awp_cond rfl (fun hc => ?_) (fun hc => ?_) <;> (try simp only [push_cast] at hc)
        ·
          refine awp_seq' fun K hK => ?_
          refine awp_region tyOk tyPos [] rfl ?_
          simp only [push_cast, ↓brB_true, ↓brB_false, ↓reduceIte, Nat.reduceMod, Nat.reduceMul, Nat.reduceDiv, Nat.reduceAdd, Nat.reduceSub, Nat.reduceEqDiff, Nat.reduceBEq, Nat.reduceLT, Nat.reduceLeDiff, reduceCtorEq]
          repeat' apply And.intro
          all_goals first | exact True.intro | exact rfl | omega | with_reducible assumption | (simp only [List.length_set, List.length_append, List.length_replicate, List.length_cons, List.length_nil]; omega) | skip
          all_goals first | (refine hK _ ?_; clear hK K) | (simp only [push_cast]; done)
          refine awp_ret ?_
          (try simp only [AThen, ABlk])
          refine ⟨Or.inl rfl, ?_⟩
          simp only [RetOk, push_cast, ↓brB_true, ↓brB_false, ↓reduceIte, Nat.reduceMod, Nat.reduceMul, Nat.reduceDiv, Nat.reduceAdd, Nat.reduceSub, Nat.reduceEqDiff, Nat.reduceBEq, Nat.reduceLT, Nat.reduceLeDiff, reduceCtorEq]
          rw [prioV_at (k := k) (by omega) hall (by omega), show oneB f.sets (meetI f.names (r.take (k + 1))) = true from by with_reducible assumption]
          rfl
        ·
          refine awp_skip ?_
          (try simp only [AThen, ABlk, reduceIte, Nat.reduceEqDiff]); refine hK4 _ ?_
          refine awp_seq' fun K hK => ?_
          refine awp_region tyOk tyPos [] rfl ?_
          simp only [push_cast, ↓brB_true, ↓brB_false, ↓reduceIte, Nat.reduceMod, Nat.reduceMul, Nat.reduceDiv, Nat.reduceAdd, Nat.reduceSub, Nat.reduceEqDiff, Nat.reduceBEq, Nat.reduceLT, Nat.reduceLeDiff, reduceCtorEq]
          repeat' apply And.intro
          all_goals first | exact True.intro | exact rfl | omega | with_reducible assumption | (simp only [List.length_set, List.length_append, List.length_replicate, List.length_cons, List.length_nil]; omega) | skip
          all_goals first | (refine hK _ ?_; clear hK K) | (simp only [push_cast]; done)
          refine awp_ret ?_
          (try simp only [AThen, ABlk])
          refine ⟨Or.inl rfl, ?_⟩
          simp only [RetOk, push_cast, ↓brB_true, ↓brB_false, ↓reduceIte, Nat.reduceMod, Nat.reduceMul, Nat.reduceDiv, Nat.reduceAdd, Nat.reduceSub, Nat.reduceEqDiff, Nat.reduceBEq, Nat.reduceLT, Nat.reduceLeDiff, reduceCtorEq]
          rw [prioV_at (k := k) (by omega) hall (by omega), show oneB f.sets (meetI f.names (r.take (k + 1))) = false from by with_reducible assumption]
          rfl
      ·
        refine awp_skip ?_
        (try simp only [AThen, ABlk, reduceIte, Nat.reduceEqDiff]); refine hK3 _ ?_
        refine awp_region tyOk tyPos [] rfl ?_
        simp only [push_cast, ↓brB_true, ↓brB_false, ↓reduceIte, Nat.reduceMod, Nat.reduceMul, Nat.reduceDiv, Nat.reduceAdd, Nat.reduceSub, Nat.reduceEqDiff, Nat.reduceBEq, Nat.reduceLT, Nat.reduceLeDiff, reduceCtorEq]
        repeat' apply And.intro
        all_goals first | exact True.intro | exact rfl | omega | with_reducible assumption | (simp only [List.length_set, List.length_append, List.length_replicate, List.length_cons, List.length_nil]; omega) | skip
        refine hL0 _ ⟨k + 1, ⟨by omega, fun j hj => (by
            by_cases hjk : j = k
            · subst hjk; omega
            · exact hall j (by omega))⟩, by omega, ?_⟩
        refine cov_of rfl ?_ ?_ ?_ <;> simp only [covS, covL, push_cast, ↓brB_true, ↓brB_false, ↓reduceIte, Nat.reduceMod, Nat.reduceMul, Nat.reduceDiv, Nat.reduceAdd, Nat.reduceSub, Nat.reduceEqDiff, Nat.reduceBEq, Nat.reduceLT, Nat.reduceLeDiff, reduceCtorEq]
    ·
      refine awp_exit ?_
      (try simp only [AThen, ABlk, reduceIte, Nat.reduceEqDiff]); refine hK1 _ ?_
      refine awp_seq' fun K5 hK5 => ?_
      refine awp_seq' fun K hK => ?_
      refine awp_region tyOk tyPos [] rfl ?_
      all_goals refine aops_cut 3 fun K9 hK9 => ?_
      all_goals simp only [push_cast, ↓brB_true, ↓brB_false, ↓reduceIte, Nat.reduceMod, Nat.reduceMul, Nat.reduceDiv, Nat.reduceAdd, Nat.reduceSub, Nat.reduceEqDiff, Nat.reduceBEq, Nat.reduceLT, Nat.reduceLeDiff, reduceCtorEq]
      all_goals repeat' (first | (apply brB_mk <;> (intro hg; (try simp only [push_cast] at hg))) | (refine ⟨_, hH [] (by simp), ?_⟩; simp only [push_cast, ↓brB_true, ↓brB_false, ↓reduceIte, Nat.reduceMod, Nat.reduceMul, Nat.reduceDiv, Nat.reduceAdd, Nat.reduceSub, Nat.reduceEqDiff, Nat.reduceBEq, Nat.reduceLT, Nat.reduceLeDiff, reduceCtorEq]) | apply And.intro | (intro hg; (try simp only [push_cast] at hg)))
      all_goals first | exact True.intro | exact rfl | contradiction | omega | with_reducible assumption | skip
      all_goals first | (refine hK9 _ ?_; clear hK9 K9) | (simp only [push_cast]; done)
      all_goals simp only [push_cast, ↓brB_true, ↓brB_false, ↓reduceIte, Nat.reduceMod, Nat.reduceMul, Nat.reduceDiv, Nat.reduceAdd, Nat.reduceSub, Nat.reduceEqDiff, Nat.reduceBEq, Nat.reduceLT, Nat.reduceLeDiff, reduceCtorEq]
      all_goals repeat' (first | (apply brB_mk <;> (intro hg; (try simp only [push_cast] at hg))) | (refine ⟨_, hH [] (by simp), ?_⟩; simp only [push_cast, ↓brB_true, ↓brB_false, ↓reduceIte, Nat.reduceMod, Nat.reduceMul, Nat.reduceDiv, Nat.reduceAdd, Nat.reduceSub, Nat.reduceEqDiff, Nat.reduceBEq, Nat.reduceLT, Nat.reduceLeDiff, reduceCtorEq]) | apply And.intro | (intro hg; (try simp only [push_cast] at hg)))
      all_goals first | exact True.intro | exact rfl | contradiction | omega | with_reducible assumption | skip
      all_goals first | (refine hK _ ?_; clear hK K) | (simp only [push_cast]; done)
      refine awp_cond rfl (fun hc => ?_) (fun hc => ?_) <;> (try simp only [push_cast] at hc)
      ·
        refine awp_seq' fun K hK => ?_
        refine awp_region tyOk tyPos [] rfl ?_
        simp only [push_cast, ↓brB_true, ↓brB_false, ↓reduceIte, Nat.reduceMod, Nat.reduceMul, Nat.reduceDiv, Nat.reduceAdd, Nat.reduceSub, Nat.reduceEqDiff, Nat.reduceBEq, Nat.reduceLT, Nat.reduceLeDiff, reduceCtorEq]
        repeat' apply And.intro
        all_goals first | exact True.intro | exact rfl | omega | with_reducible assumption | (simp only [List.length_set, List.length_append, List.length_replicate, List.length_cons, List.length_nil]; omega) | skip
        all_goals first | (refine hK _ ?_; clear hK K) | (simp only [push_cast]; done)
        refine awp_ret ?_
        (try simp only [AThen, ABlk])
        refine ⟨Or.inl rfl, ?_⟩
        simp only [RetOk, push_cast, ↓brB_true, ↓brB_false, ↓reduceIte, Nat.reduceMod, Nat.reduceMul, Nat.reduceDiv, Nat.reduceAdd, Nat.reduceSub, Nat.reduceEqDiff, Nat.reduceBEq, Nat.reduceLT, Nat.reduceLeDiff, reduceCtorEq]
        rw [prioV_none (fun j hj => hall j (by omega)), show oneB f.sets [] = true from by with_reducible assumption]
        rfl
      ·
        refine awp_skip ?_
        (try simp only [AThen, ABlk, reduceIte, Nat.reduceEqDiff]); refine hK5 _ ?_
        refine awp_seq' fun K hK => ?_
        refine awp_region tyOk tyPos [] rfl ?_
        simp only [push_cast, ↓brB_true, ↓brB_false, ↓reduceIte, Nat.reduceMod, Nat.reduceMul, Nat.reduceDiv, Nat.reduceAdd, Nat.reduceSub, Nat.reduceEqDiff, Nat.reduceBEq, Nat.reduceLT, Nat.reduceLeDiff, reduceCtorEq]
        repeat' apply And.intro
        all_goals first | exact True.intro | exact rfl | omega | with_reducible assumption | (simp only [List.length_set, List.length_append, List.length_replicate, List.length_cons, List.length_nil]; omega) | skip
        all_goals first | (refine hK _ ?_; clear hK K) | (simp only [push_cast]; done)
        refine awp_ret ?_
        (try simp only [AThen, ABlk])
        refine ⟨Or.inl rfl, ?_⟩
        simp only [RetOk, push_cast, ↓brB_true, ↓brB_false, ↓reduceIte, Nat.reduceMod, Nat.reduceMul, Nat.reduceDiv, Nat.reduceAdd, Nat.reduceSub, Nat.reduceEqDiff, Nat.reduceBEq, Nat.reduceLT, Nat.reduceLeDiff, reduceCtorEq]
        rw [prioV_none (fun j hj => hall j (by omega)), show oneB f.sets [] = false from by with_reducible assumption]
        rfl
set_option maxRecDepth 20000 in
set_option maxHeartbeats 4000000 in
theorem VisitPrioS_fn (f : Fm) (hf : f.Ln 1048576) (r : List Int) (hr : r.length ≤ 1048576) (v : Int) : Fn Try.prog tyT 28 [.agg (dFm f), .c (DI r), .c (.int .i64 v)] [.c (.int .i64 (prioRes f r v))] := by
  have h1 := hf.names
  have h2 := hf.sets.1
  unfold LnI at h1
  have hrr : ∀ v, (gl f.sets v).length ≤ 1048576 := fun v => gl_le hf.sets v
  have hA := l18Right_fn f hf r hr v
  have hN := l18Prio_fn f hf r hr v
  unfold dFm at hA hN
  unfold dFm
  refine Fn_of (fn := Try.f28) (ts := [6]) Try.func28 (by kernel_rfl) rfl rfl (by rw [Try.ntmps28]; exact Nat.le_of_ble_eq_true rfl) rfl (by simp only [szA, List.mem_cons, List.not_mem_nil, or_false, forall_eq_or_imp, forall_eq, VT.cells, szL]; try decide) ?_
  rw [Try.ntmps28]
  simp only [push_cast, ↓brB_true, ↓brB_false, ↓reduceIte, Nat.reduceMod, Nat.reduceMul, Nat.reduceDiv, Nat.reduceAdd, Nat.reduceSub, Nat.reduceEqDiff, Nat.reduceBEq, Nat.reduceLT, Nat.reduceLeDiff, reduceCtorEq]
  refine awp_seq' fun K hK => ?_
  refine awp_region tyOk tyPos [] rfl ?_
  simp only [push_cast, ↓brB_true, ↓brB_false, ↓reduceIte, Nat.reduceMod, Nat.reduceMul, Nat.reduceDiv, Nat.reduceAdd, Nat.reduceSub, Nat.reduceEqDiff, Nat.reduceBEq, Nat.reduceLT, Nat.reduceLeDiff, reduceCtorEq]
  repeat' apply And.intro
  all_goals first | exact True.intro | exact rfl | omega | with_reducible assumption | (simp only [List.length_set, List.length_append, List.length_replicate, List.length_cons, List.length_nil]; omega) | skip
  all_goals first | (refine hK _ ?_; clear hK K) | (simp only [push_cast]; done)
  refine awp_seq' fun K1 hK1 => ?_
  refine awp_seq' fun K hK => ?_
  refine awp_region tyOk tyPos [] rfl ?_
  all_goals refine aops_cut 4 fun K9 hK9 => ?_
  all_goals simp only [push_cast, ↓brB_true, ↓brB_false, ↓reduceIte, Nat.reduceMod, Nat.reduceMul, Nat.reduceDiv, Nat.reduceAdd, Nat.reduceSub, Nat.reduceEqDiff, Nat.reduceBEq, Nat.reduceLT, Nat.reduceLeDiff, reduceCtorEq]
  all_goals repeat' (first | (apply brB_mk <;> (intro hg; (try simp only [push_cast] at hg))) | (refine ⟨_, hA, ?_⟩; simp only [push_cast, ↓brB_true, ↓brB_false, ↓reduceIte, Nat.reduceMod, Nat.reduceMul, Nat.reduceDiv, Nat.reduceAdd, Nat.reduceSub, Nat.reduceEqDiff, Nat.reduceBEq, Nat.reduceLT, Nat.reduceLeDiff, reduceCtorEq]) | apply And.intro | (intro hg; (try simp only [push_cast] at hg)))
  all_goals first | exact True.intro | exact rfl | contradiction | omega | with_reducible assumption | skip
  all_goals first | (refine hK9 _ ?_; clear hK9 K9) | (simp only [push_cast]; done)
  all_goals simp only [push_cast, ↓brB_true, ↓brB_false, ↓reduceIte, Nat.reduceMod, Nat.reduceMul, Nat.reduceDiv, Nat.reduceAdd, Nat.reduceSub, Nat.reduceEqDiff, Nat.reduceBEq, Nat.reduceLT, Nat.reduceLeDiff, reduceCtorEq]
  all_goals repeat' (first | (apply brB_mk <;> (intro hg; (try simp only [push_cast] at hg))) | (refine ⟨_, hA, ?_⟩; simp only [push_cast, ↓brB_true, ↓brB_false, ↓reduceIte, Nat.reduceMod, Nat.reduceMul, Nat.reduceDiv, Nat.reduceAdd, Nat.reduceSub, Nat.reduceEqDiff, Nat.reduceBEq, Nat.reduceLT, Nat.reduceLeDiff, reduceCtorEq]) | apply And.intro | (intro hg; (try simp only [push_cast] at hg)))
  all_goals first | exact True.intro | exact rfl | contradiction | omega | with_reducible assumption | skip
  all_goals first | (refine hK _ ?_; clear hK K) | (simp only [push_cast]; done)
  refine awp_cond rfl (fun hc => ?_) (fun hc => ?_) <;> (try simp only [push_cast] at hc)
  ·
    refine awp_seq' fun K hK => ?_
    refine awp_region tyOk tyPos [] rfl ?_
    simp only [push_cast, ↓brB_true, ↓brB_false, ↓reduceIte, Nat.reduceMod, Nat.reduceMul, Nat.reduceDiv, Nat.reduceAdd, Nat.reduceSub, Nat.reduceEqDiff, Nat.reduceBEq, Nat.reduceLT, Nat.reduceLeDiff, reduceCtorEq]
    repeat' apply And.intro
    all_goals first | exact True.intro | exact rfl | omega | with_reducible assumption | (simp only [List.length_set, List.length_append, List.length_replicate, List.length_cons, List.length_nil]; omega) | skip
    all_goals first | (refine hK _ ?_; clear hK K) | (simp only [push_cast]; done)
    refine awp_ret ?_
    (try simp only [AThen, ABlk])
    refine ⟨Or.inl rfl, ?_⟩
    simp only [RetOk, push_cast, ↓brB_true, ↓brB_false, ↓reduceIte, Nat.reduceMod, Nat.reduceMul, Nat.reduceDiv, Nat.reduceAdd, Nat.reduceSub, Nat.reduceEqDiff, Nat.reduceBEq, Nat.reduceLT, Nat.reduceLeDiff, reduceCtorEq]
    rw [prioRes_no (by with_reducible assumption)]
  ·
    refine awp_skip ?_
    (try simp only [AThen, ABlk, reduceIte, Nat.reduceEqDiff]); refine hK1 _ ?_
    have hrt : rightB f r v = true := by with_reducible assumption
    refine awp_seq' fun K hK => ?_
    refine awp_region tyOk tyPos [] rfl ?_
    all_goals refine aops_cut 4 fun K9 hK9 => ?_
    all_goals simp only [push_cast, ↓brB_true, ↓brB_false, ↓reduceIte, Nat.reduceMod, Nat.reduceMul, Nat.reduceDiv, Nat.reduceAdd, Nat.reduceSub, Nat.reduceEqDiff, Nat.reduceBEq, Nat.reduceLT, Nat.reduceLeDiff, reduceCtorEq]
    all_goals repeat' (first | (apply brB_mk <;> (intro hg; (try simp only [push_cast] at hg))) | (refine ⟨_, hN, ?_⟩; simp only [push_cast, ↓brB_true, ↓brB_false, ↓reduceIte, Nat.reduceMod, Nat.reduceMul, Nat.reduceDiv, Nat.reduceAdd, Nat.reduceSub, Nat.reduceEqDiff, Nat.reduceBEq, Nat.reduceLT, Nat.reduceLeDiff, reduceCtorEq]) | apply And.intro | (intro hg; (try simp only [push_cast] at hg)))
    all_goals first | exact True.intro | exact rfl | contradiction | omega | with_reducible assumption | skip
    all_goals first | (refine hK9 _ ?_; clear hK9 K9) | (simp only [push_cast]; done)
    all_goals simp only [push_cast, ↓brB_true, ↓brB_false, ↓reduceIte, Nat.reduceMod, Nat.reduceMul, Nat.reduceDiv, Nat.reduceAdd, Nat.reduceSub, Nat.reduceEqDiff, Nat.reduceBEq, Nat.reduceLT, Nat.reduceLeDiff, reduceCtorEq]
    all_goals repeat' (first | (apply brB_mk <;> (intro hg; (try simp only [push_cast] at hg))) | (refine ⟨_, hN, ?_⟩; simp only [push_cast, ↓brB_true, ↓brB_false, ↓reduceIte, Nat.reduceMod, Nat.reduceMul, Nat.reduceDiv, Nat.reduceAdd, Nat.reduceSub, Nat.reduceEqDiff, Nat.reduceBEq, Nat.reduceLT, Nat.reduceLeDiff, reduceCtorEq]) | apply And.intro | (intro hg; (try simp only [push_cast] at hg)))
    all_goals first | exact True.intro | exact rfl | contradiction | omega | with_reducible assumption | skip
    all_goals first | (refine hK _ ?_; clear hK K) | (simp only [push_cast]; done)
    refine awp_ret ?_
    (try simp only [AThen, ABlk])
    refine ⟨Or.inl rfl, ?_⟩
    simp only [RetOk, push_cast, ↓brB_true, ↓brB_false, ↓reduceIte, Nat.reduceMod, Nat.reduceMul, Nat.reduceDiv, Nat.reduceAdd, Nat.reduceSub, Nat.reduceEqDiff, Nat.reduceBEq, Nat.reduceLT, Nat.reduceLeDiff, reduceCtorEq]
    rw [prioRes_yes hrt]
end Go.Proofs.Ytbieekheapeopaa
