/- the means of a game and of a plan: both sides -/
import Derived.Test.YtdbecmmeifdafaaMwzmb
import Derived.Test.YtdbecmmeifdafaaGPzmb
import Derived.Test.YtdbecmmeifdafaaFwzmb
namespace Go.Proofs.Ytdbecmmeifdafaa
open Nat renaming reduceMod → zA, reduceMul → zB, reduceDiv → zC, reduceAdd → zD, reduceSub → zE, reduceEqDiff → zF, reduceBEq → zG, reduceLT → zH, reduceLeDiff → zI
open Go.RowKit
set_option linter.unusedVariables false
set_option linter.unusedSimpArgs false

theorem fix_mn {w : Wt} (h : meanB w = true) {plan : List Int} (hb : fwB w 0 plan = true) : WMn (fwW w 0 plan) := by
  have hw := wmn_of h
  obtain ⟨h1, h2⟩ := fwB_facts hb
  obtain ⟨hok, hn1, hn2, hn3, hn4, hrow⟩ := weighted_facts h1
  obtain ⟨hp, hpat⟩ := planB_at (planOk_facts h2).2.2
  rw [fw_yes hb]
  have en : ∀ v, v < w.a.owner.length → gl (fixW w plan).a.next v = if 0 ≤ gi plan v then [gi plan v] else gl w.a.next v := fun v hv => fixL_at (xs := w.a.next) (by omega)
  have ec : ∀ v, v < w.a.owner.length → gl (fixW w plan).cost v = if 0 ≤ gi plan v then [yW w plan v] else gl w.cost v := fun v hv => fixL_at (xs := w.cost) (by omega)
  have hpv : ∀ v, v < w.a.owner.length → 0 ≤ gi plan v → hasB (gl w.a.next v) (gi plan v) = true := fun v hv hg => by
    rcases hpat v (by omega) with e | e
    · omega
    · exact e.2
  have hmem : ∀ v, v < w.a.owner.length → 0 ≤ gi plan v → ∃ j, j < (gl w.a.next v).length ∧ gi (gl w.a.next v) j = gi plan v ∧ yW w plan v = gi (gl w.cost v) j := fun v hv hg => by
    have h9 := hpv v hv hg
    have hlt : fidx (gl w.a.next v) (gi plan v) < (gl w.a.next v).length := by unfold hasB at h9; exact of_decide_eq_true h9
    refine ⟨fidx (gl w.a.next v) (gi plan v), hlt, fidx_spec hlt, ?_⟩
    unfold yW stepC
    rw [Int.toNat_natCast, if_pos h9]
    rfl
  have hlen : ∀ v, v < w.a.owner.length → (gl (fixW w plan).cost v).length = (gl (fixW w plan).a.next v).length ∧ 1 ≤ (gl (fixW w plan).a.next v).length ∧ (gl (fixW w plan).a.next v).length ≤ 16 := fun v hv => by
    rw [en v hv, ec v hv]
    split
    · simp
    · exact hw.sh.row v hv
  have hto : ∀ v, v < w.a.owner.length → ∀ j, j < (gl (fixW w plan).a.next v).length → 0 ≤ gi (gl (fixW w plan).a.next v) j ∧ gi (gl (fixW w plan).a.next v) j < w.a.owner.length := fun v hv j hj => by
    rw [en v hv] at hj ⊢
    split
    · rename_i hg
      rw [if_pos hg] at hj
      have : j = 0 := by simp at hj; exact hj
      subst this
      obtain ⟨i, hi, e, -⟩ := hmem v hv hg
      rw [show gi [gi plan v] 0 = gi plan v from rfl, ← e]
      exact hw.sh.to v hv i hi
    · rename_i hg
      rw [if_neg hg] at hj
      exact hw.sh.to v hv j hj
  have hcc : ∀ v, v < w.a.owner.length → ∀ j, j < (gl (fixW w plan).a.next v).length → -1000 ≤ gi (gl (fixW w plan).cost v) j ∧ gi (gl (fixW w plan).cost v) j ≤ 1000 := fun v hv j hj => by
    rw [en v hv] at hj
    rw [ec v hv]
    split
    · rename_i hg
      rw [if_pos hg] at hj
      have : j = 0 := by simp at hj; exact hj
      subst this
      obtain ⟨i, hi, -, e⟩ := hmem v hv hg
      rw [show gi [yW w plan v] 0 = yW w plan v from rfl, e]
      exact hw.c1 v hv i hi
    · rename_i hg
      rw [if_neg hg] at hj
      exact hw.c1 v hv j hj
  have hsz : (fixW w plan).a.next.length = w.a.owner.length := by show (fixL _ _ _ _).length = _; rw [fixL_len (Nat.le_refl _)]; exact hn3
  refine ⟨⟨?_, hw.sh.n1, hw.sh.n2, hsz, by show (fixL _ _ _ _).length = _; rw [fixL_len (Nat.le_refl _)]; exact hn4, hlen, fun v hv j hj => by have := hcc v hv j hj; omega, hto, hw.sh.own⟩, hw.n8, hcc⟩
  refine arenaB_true ⟨hw.sh.n1, by have := hw.n8; show w.a.owner.length ≤ 256; omega, hsz⟩ fun v hv => ?_
  have ho := hw.sh.own v hv
  have hl := hlen v hv
  unfold arenaAt ownAt
  rw [Bool.and_eq_true]
  refine ⟨decide_eq_true ⟨?_, ?_, hl.2.1, hl.2.2⟩, ?_⟩
  · show 0 ≤ gi w.a.owner v; omega
  · show gi w.a.owner v ≤ 1; omega
  · rw [en v hv]
    split
    · rename_i hg
      have h0 := hto v hv 0 (by have := hl.2.1; omega)
      rw [en v hv, if_pos hg] at h0
      refine allB_true fun j hj => ?_
      have : j = 0 := by simp at hj; exact hj
      subst this
      unfold riseAt
      exact decide_eq_true ⟨h0.1, h0.2, .inl rfl⟩
    · exact (arenaB_at hok hv).2.2.2.2
def mby (w : Wt) (plan : List Int) : List Fr := if meanB w && fwB w 0 plan then meansL (fwW w 0 plan) else []
theorem mby_no {w : Wt} {plan : List Int} (h : meanB w = false ∨ fwB w 0 plan = false) : mby w plan = [] := by
  unfold mby
  rcases h with h | h <;> rw [h] <;> simp
theorem mby_yes {w : Wt} {plan : List Int} (h : meanB w = true) (h2 : fwB w 0 plan = true) : mby w plan = meansL (fwW w 0 plan) := by unfold mby; rw [h, h2]; rfl
set_option maxRecDepth 20000 in
set_option maxHeartbeats 4000000 in
theorem MeanByI_fn (w : Wt) (ha : w.Ln 1048576) (plan : List Int) (hpl : LnI 1048576 plan) : Fn Try.prog tyT 26 [.agg (dWt w), .c (DI plan)] [.c (.lst 50 (dFrs (mby w plan)))] := by
  unfold LnI at hpl
  have hA := isMean_fn w ha
  have hF := FixedWeightedI_fn w ha 0 plan hpl
  have hO := fun h1 h2 => meanOf_fn (fwW w 0 plan) (fwW_len ha) (fix_mn h1 h2)
  unfold dWt at hA hF hO ⊢
  refine Fn_of (fn := Try.f26) (ts := [4]) Try.func26 (by kernel_rfl) rfl rfl (by rw [Try.ntmps26]; exact Nat.le_of_ble_eq_true rfl) rfl (by simp only [szA, List.mem_cons, List.not_mem_nil, or_false, forall_eq_or_imp, forall_eq, VT.cells, szL]; try decide) ?_
  rw [Try.ntmps26]
  simp only [push_cast, ↓brB_true, ↓brB_false, ↓reduceIte, zA, zB, zC, zD, zE, zF, zG, zH, zI, reduceCtorEq]
  refine awp_seq' fun K hK => ?_
  refine awp_region tyOk tyPos [] rfl ?_
  simp only [push_cast, ↓brB_true, ↓brB_false, ↓reduceIte, zA, zB, zC, zD, zE, zF, zG, zH, zI, reduceCtorEq]
  repeat' apply And.intro
  all_goals first | exact True.intro | exact rfl | omega | with_reducible assumption | (simp only [List.length_set, List.length_append, List.length_replicate, List.length_cons, List.length_nil]; omega) | skip
  all_goals first | (refine hK _ ?_; clear hK K) | (simp only [push_cast]; done)
  refine awp_seq' fun K1 hK1 => ?_
  refine awp_seq' fun K hK => ?_
  refine awp_region tyOk tyPos [] rfl ?_
  all_goals refine aops_cut 2 fun K9 hK9 => ?_
  all_goals simp only [push_cast, ↓brB_true, ↓brB_false, ↓reduceIte, zA, zB, zC, zD, zE, zF, zG, zH, zI, reduceCtorEq]
  all_goals repeat' (first | (apply brB_mk <;> (intro hg; (try simp only [push_cast] at hg))) | (refine ⟨_, hA, ?_⟩; simp only [push_cast, ↓brB_true, ↓brB_false, ↓reduceIte, zA, zB, zC, zD, zE, zF, zG, zH, zI, reduceCtorEq]) | apply And.intro | (intro hg; (try simp only [push_cast] at hg)))
  all_goals first | exact True.intro | exact rfl | contradiction | omega | with_reducible assumption | skip
  all_goals first | (refine hK9 _ ?_; clear hK9 K9) | (simp only [push_cast]; done)
  all_goals simp only [push_cast, ↓brB_true, ↓brB_false, ↓reduceIte, zA, zB, zC, zD, zE, zF, zG, zH, zI, reduceCtorEq]
  all_goals repeat' (first | (apply brB_mk <;> (intro hg; (try simp only [push_cast] at hg))) | (refine ⟨_, hA, ?_⟩; simp only [push_cast, ↓brB_true, ↓brB_false, ↓reduceIte, zA, zB, zC, zD, zE, zF, zG, zH, zI, reduceCtorEq]) | apply And.intro | (intro hg; (try simp only [push_cast] at hg)))
  all_goals first | exact True.intro | exact rfl | contradiction | omega | with_reducible assumption | skip
  all_goals first | (refine hK _ ?_; clear hK K) | (simp only [push_cast]; done)
  refine awp_cond rfl (fun hc => ?_) (fun hc => ?_) <;> (try simp only [push_cast] at hc)
  ·
    refine awp_seq' fun K hK => ?_
    refine awp_region tyOk tyPos [] rfl ?_
    simp only [push_cast, ↓brB_true, ↓brB_false, ↓reduceIte, zA, zB, zC, zD, zE, zF, zG, zH, zI, reduceCtorEq]
    repeat' apply And.intro
    all_goals first | exact True.intro | exact rfl | omega | with_reducible assumption | (simp only [List.length_set, List.length_append, List.length_replicate, List.length_cons, List.length_nil]; omega) | skip
    all_goals first | (refine hK _ ?_; clear hK K) | (simp only [push_cast]; done)
    refine awp_ret ?_
    (try simp only [AThen, ABlk])
    refine ⟨Or.inl rfl, ?_⟩
    simp only [RetOk, push_cast, ↓brB_true, ↓brB_false, ↓reduceIte, zA, zB, zC, zD, zE, zF, zG, zH, zI, reduceCtorEq]
    rw [mby_no (by first | exact .inl (by with_reducible assumption) | exact .inr (by with_reducible assumption))]
    all_goals first | rfl | exact ⟨rfl, rfl⟩ | (simp [dI]; done)
  ·
    refine awp_skip ?_
    (try simp only [AThen, ABlk, reduceIte, zF]); refine hK1 _ ?_
    refine awp_seq' fun K hK => ?_
    refine awp_region tyOk tyPos [] rfl ?_
    all_goals refine aops_cut 3 fun K9 hK9 => ?_
    all_goals simp only [push_cast, ↓brB_true, ↓brB_false, ↓reduceIte, zA, zB, zC, zD, zE, zF, zG, zH, zI, reduceCtorEq]
    all_goals repeat' (first | (apply brB_mk <;> (intro hg; (try simp only [push_cast] at hg))) | (refine ⟨_, hF, ?_⟩; simp only [push_cast, ↓brB_true, ↓brB_false, ↓reduceIte, zA, zB, zC, zD, zE, zF, zG, zH, zI, reduceCtorEq]) | apply And.intro | (intro hg; (try simp only [push_cast] at hg)))
    all_goals first | exact True.intro | exact rfl | contradiction | omega | with_reducible assumption | skip
    all_goals first | (refine hK9 _ ?_; clear hK9 K9) | (simp only [push_cast]; done)
    all_goals simp only [push_cast, ↓brB_true, ↓brB_false, ↓reduceIte, zA, zB, zC, zD, zE, zF, zG, zH, zI, reduceCtorEq]
    all_goals repeat' (first | (apply brB_mk <;> (intro hg; (try simp only [push_cast] at hg))) | (refine ⟨_, hF, ?_⟩; simp only [push_cast, ↓brB_true, ↓brB_false, ↓reduceIte, zA, zB, zC, zD, zE, zF, zG, zH, zI, reduceCtorEq]) | apply And.intro | (intro hg; (try simp only [push_cast] at hg)))
    all_goals first | exact True.intro | exact rfl | contradiction | omega | with_reducible assumption | skip
    all_goals first | (refine hK _ ?_; clear hK K) | (simp only [push_cast]; done)
    refine awp_seq' fun K2 hK2 => ?_
    refine awp_seq' fun K hK => ?_
    refine awp_region tyOk tyPos [] rfl ?_
    simp only [push_cast, ↓brB_true, ↓brB_false, ↓reduceIte, zA, zB, zC, zD, zE, zF, zG, zH, zI, reduceCtorEq]
    repeat' apply And.intro
    all_goals first | exact True.intro | exact rfl | omega | with_reducible assumption | (simp only [List.length_set, List.length_append, List.length_replicate, List.length_cons, List.length_nil]; omega) | skip
    all_goals first | (refine hK _ ?_; clear hK K) | (simp only [push_cast]; done)
    refine awp_cond rfl (fun hc => ?_) (fun hc => ?_) <;> (try simp only [push_cast] at hc)
    ·
      refine awp_seq' fun K hK => ?_
      refine awp_region tyOk tyPos [] rfl ?_
      simp only [push_cast, ↓brB_true, ↓brB_false, ↓reduceIte, zA, zB, zC, zD, zE, zF, zG, zH, zI, reduceCtorEq]
      repeat' apply And.intro
      all_goals first | exact True.intro | exact rfl | omega | with_reducible assumption | (simp only [List.length_set, List.length_append, List.length_replicate, List.length_cons, List.length_nil]; omega) | skip
      all_goals first | (refine hK _ ?_; clear hK K) | (simp only [push_cast]; done)
      refine awp_ret ?_
      (try simp only [AThen, ABlk])
      refine ⟨Or.inl rfl, ?_⟩
      simp only [RetOk, push_cast, ↓brB_true, ↓brB_false, ↓reduceIte, zA, zB, zC, zD, zE, zF, zG, zH, zI, reduceCtorEq]
      rw [mby_no (by first | exact .inl (by with_reducible assumption) | exact .inr (by with_reducible assumption))]
      all_goals first | rfl | exact ⟨rfl, rfl⟩ | (simp [dI]; done)
    ·
      refine awp_skip ?_
      (try simp only [AThen, ABlk, reduceIte, zF]); refine hK2 _ ?_
      refine awp_seq' fun K hK => ?_
      refine awp_region tyOk tyPos [] rfl ?_
      all_goals refine aops_cut 2 fun K9 hK9 => ?_
      all_goals simp only [push_cast, ↓brB_true, ↓brB_false, ↓reduceIte, zA, zB, zC, zD, zE, zF, zG, zH, zI, reduceCtorEq]
      all_goals repeat' (first | (apply brB_mk <;> (intro hg; (try simp only [push_cast] at hg))) | (refine ⟨_, hO (by with_reducible assumption) (by with_reducible assumption), ?_⟩; simp only [push_cast, ↓brB_true, ↓brB_false, ↓reduceIte, zA, zB, zC, zD, zE, zF, zG, zH, zI, reduceCtorEq]) | apply And.intro | (intro hg; (try simp only [push_cast] at hg)))
      all_goals first | exact True.intro | exact rfl | contradiction | omega | with_reducible assumption | skip
      all_goals first | (refine hK9 _ ?_; clear hK9 K9) | (simp only [push_cast]; done)
      all_goals simp only [push_cast, ↓brB_true, ↓brB_false, ↓reduceIte, zA, zB, zC, zD, zE, zF, zG, zH, zI, reduceCtorEq]
      all_goals repeat' (first | (apply brB_mk <;> (intro hg; (try simp only [push_cast] at hg))) | (refine ⟨_, hO (by with_reducible assumption) (by with_reducible assumption), ?_⟩; simp only [push_cast, ↓brB_true, ↓brB_false, ↓reduceIte, zA, zB, zC, zD, zE, zF, zG, zH, zI, reduceCtorEq]) | apply And.intro | (intro hg; (try simp only [push_cast] at hg)))
      all_goals first | exact True.intro | exact rfl | contradiction | omega | with_reducible assumption | skip
      all_goals first | (refine hK _ ?_; clear hK K) | (simp only [push_cast]; done)
      refine awp_ret ?_
      (try simp only [AThen, ABlk])
      refine ⟨Or.inl rfl, ?_⟩
      simp only [RetOk, push_cast, ↓brB_true, ↓brB_false, ↓reduceIte, zA, zB, zC, zD, zE, zF, zG, zH, zI, reduceCtorEq]
      rw [mby_yes (by with_reducible assumption) (by with_reducible assumption)]
      all_goals first | rfl | exact ⟨rfl, rfl⟩ | (simp [dI]; done)
end Go.Proofs.Ytdbecmmeifdafaa
