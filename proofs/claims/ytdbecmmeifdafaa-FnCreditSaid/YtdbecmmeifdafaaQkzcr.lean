/- the play of a plan against dice: laws -/
import Derived.Test.YtdbecmmeifdafaaQhzcr
import Derived.Test.YtdbecmmeifdafaaDqzcr
namespace Go.Proofs.Ytdbecmmeifdafaa
open Nat renaming reduceMod → zA, reduceMul → zB, reduceDiv → zC, reduceAdd → zD, reduceSub → zE, reduceEqDiff → zF, reduceBEq → zG, reduceLT → zH, reduceLeDiff → zI
open Go.RowKit
set_option linter.unusedVariables false
set_option linter.unusedSimpArgs false

attribute [-push_cast] rm
theorem full_at {a : Ar} (ha : arenaB a = true) {who : Int} {plan : List Int} (hl : plan.length = a.owner.length) (h : ∀ v, v < a.owner.length → (gi a.owner v = who → hasB (gl a.next v) (gi plan v) = true) ∧ (¬ gi a.owner v = who → gi plan v = -1)) : fullB a who plan = true := by
  refine fullB_yes (planB_yes hl fun v hv => planAtB_ok ?_) fun v hv he => ?_
  · by_cases e : gi a.owner v = who
    · exact .inr ⟨e, (h v (by omega)).1 e⟩
    · exact .inl ((h v (by omega)).2 e)
  · have h1 := has_rg ha (v := v) (by omega) ((h v (by omega)).1 he.1)
    omega
theorem fullL_full {a : Ar} (ha : arenaB a = true) {who : Int} {plan : List Int} (hp : planB a who plan = true) : fullB a who (fullL a who plan a.owner.length) = true := by
  obtain ⟨hl, hat⟩ := planB_at hp
  refine full_at ha (fullL_len ..) fun v hv => ?_
  rw [fullL_at hv]
  refine ⟨fun e => ?_, fun e => fullAt_no e⟩
  by_cases h2 : v < plan.length ∧ 0 ≤ gi plan v
  · rw [fullAt_plan e h2]
    rcases hat v h2.1 with h3 | h3
    · omega
    · exact h3.2
  · rw [fullAt_least e h2]
    exact hasB_gi (by have := (arenaB_at ha hv).2.2.1; omega)
theorem pL_full {code : List Int} (hby : BytesOk code) (seed : Int) {a : Ar} (ha : arenaB a = true) (who : Int) (j : Nat) : fullB a who (pL code seed a who j a.owner.length) = true := by
  refine full_at ha (pL_len ..) fun v hv => ?_
  rw [pL_at _ _ _ _ _ _ _ hv]
  refine ⟨fun e => ?_, fun e => if_neg e⟩
  rw [if_pos e]
  have h1 := (arenaB_at ha hv).2.2.1
  have h2 := dv_rg hby seed (pJ a who j v) (n := (gl a.next v).length) (by omega)
  exact hasB_gi (by omega)
/-- The play by a plan of player 0 against dice. -/
def agL (code : List Int) (seed : Int) (j : Nat) (a : Ar) (plan : List Int) (v : Int) : Ls := playL a (fullL a 0 plan a.owner.length) (pL code seed a 1 j a.owner.length) v
theorem agL_is {code : List Int} (hby : BytesOk code) (seed : Int) (j : Nat) {a : Ar} (ha : arenaB a = true) {plan : List Int} (hp : planB a 0 plan = true) {v : Int} (hv : 0 ≤ v ∧ v < a.owner.length) : PlayP a (fullL a 0 plan a.owner.length) (pL code seed a 1 j a.owner.length) v (agL code seed j a plan v) :=
  play_is ha (fullL_full ha hp) (pL_full hby seed ha 1 j) hv
set_option maxRecDepth 20000 in
set_option maxHeartbeats 4000000 in
theorem w6Against_fn (code : List Int) (hby : BytesOk code) (seed : Int) (j : Nat) (a : Ar) (ha : a.Ln 1048576) (hok : arenaB a = true) (plan : List Int) (hp : planB a 0 plan = true) (v : Int) (hv : 0 ≤ v ∧ v < a.owner.length) : FnB Try.prog tyT 23 (dSt code seed j) [.agg (dAr a), .c (.int .i64 0), .c (DI plan), .c (.int .i64 v)] (dSt code seed (pJ a 1 j a.owner.length)) [.agg (dLs (agL code seed j a plan v))] := by
  have hcl := hby.1
  have hal := arenaB_len hok
  have hpl := (planB_at hp).1
  have hF := w6Full_fn a ha hok 0 plan (by omega)
  have hP := w6Plan_fn code hby seed j a hok 1
  have hPl := PlayOf_fn a ha hok _ _ (fullL_full hok hp) (pL_full hby seed hok 1 j) v hv
  have hfl := fullL_len a 0 plan a.owner.length
  have hpl2 := pL_len code seed a 1 j a.owner.length
  generalize hg : agL code seed j a plan v = R
  unfold agL at hg
  rw [hg] at hPl
  clear hg
  generalize fullL a 0 plan a.owner.length = even at hF hPl hfl
  generalize pL code seed a 1 j a.owner.length = odd at hP hPl hpl2
  generalize pJ a 1 j a.owner.length = j2 at hP ⊢
  unfold dAr at hF hP hPl ⊢
  unfold dLs at hPl ⊢
  refine FnB_of (fn := Try.f23) (rs := [.cell 10 43]) tyOk tyPos Try.func23 (by kernel_rfl) rfl rfl (by rw [Try.ntmps23]; exact Nat.le_of_ble_eq_true rfl) rfl (by simp only [szA, List.mem_cons, List.not_mem_nil, or_false, forall_eq_or_imp, forall_eq, VT.cells, szL]; try decide) (Nat.le_of_ble_eq_true rfl) (by simp only [szL]; decide) (Nat.le_of_ble_eq_true rfl) rfl ?_
  rw [Try.ntmps23]
  simp only [push_cast, ↓brB_true, ↓brB_false, ↓reduceIte, zA, zB, zC, zD, zE, zF, zG, zH, zI, reduceCtorEq]
  refine awp_seq' fun K hK => ?_
  refine awp_region tyOk tyPos [] rfl ?_
  simp only [push_cast, ↓brB_true, ↓brB_false, ↓reduceIte, zA, zB, zC, zD, zE, zF, zG, zH, zI, reduceCtorEq]
  repeat' apply And.intro
  all_goals first | exact True.intro | exact rfl | omega | with_reducible assumption | (simp only [List.length_set, List.length_append, List.length_replicate, List.length_cons, List.length_nil]; omega) | skip
  all_goals first | (refine hK _ ?_; clear hK K) | (simp only [push_cast]; done)
  refine awp_seq' fun K hK => ?_
  refine awp_region tyOk tyPos [] rfl ?_
  all_goals refine aops_cut 4 fun K9 hK9 => ?_
  all_goals simp only [push_cast, ↓brB_true, ↓brB_false, ↓reduceIte, zA, zB, zC, zD, zE, zF, zG, zH, zI, reduceCtorEq]
  all_goals repeat' (first | (apply brB_mk <;> (intro hg; (try simp only [push_cast] at hg))) | (refine ⟨_, hF, ?_⟩; simp only [push_cast, ↓brB_true, ↓brB_false, ↓reduceIte, zA, zB, zC, zD, zE, zF, zG, zH, zI, reduceCtorEq]) | apply And.intro | (intro hg; (try simp only [push_cast] at hg)))
  all_goals first | exact True.intro | exact rfl | contradiction | omega | with_reducible assumption | skip
  all_goals first | (refine hK9 _ ?_; clear hK9 K9) | (simp only [push_cast]; done)
  all_goals simp only [push_cast, ↓brB_true, ↓brB_false, ↓reduceIte, zA, zB, zC, zD, zE, zF, zG, zH, zI, reduceCtorEq]
  all_goals repeat' (first | (apply brB_mk <;> (intro hg; (try simp only [push_cast] at hg))) | (refine ⟨_, hF, ?_⟩; simp only [push_cast, ↓brB_true, ↓brB_false, ↓reduceIte, zA, zB, zC, zD, zE, zF, zG, zH, zI, reduceCtorEq]) | apply And.intro | (intro hg; (try simp only [push_cast] at hg)))
  all_goals first | exact True.intro | exact rfl | contradiction | omega | with_reducible assumption | skip
  all_goals first | (refine hK _ ?_; clear hK K) | (simp only [push_cast]; done)
  refine awp_seq' fun K hK => ?_
  refine awp_regionN false tyOk tyPos ?_ rfl ?_
  · kernel_rfl
  all_goals refine seqE_cut 5 fun K9 hK9 => ?_
  all_goals simp only [push_cast, ↓brB_true, ↓brB_false, ↓reduceIte, zA, zB, zC, zD, zE, zF, zG, zH, zI, reduceCtorEq]
  all_goals repeat' (first | (apply brB_mk <;> (intro hg; (try simp only [push_cast] at hg))) | (refine ⟨_, _, hP, ?_⟩; simp only [push_cast, ↓brB_true, ↓brB_false, ↓reduceIte, zA, zB, zC, zD, zE, zF, zG, zH, zI, reduceCtorEq]) | apply And.intro | (intro hg; (try simp only [push_cast] at hg)))
  all_goals first | exact True.intro | exact rfl | contradiction | omega | with_reducible assumption | skip
  all_goals first | (refine hK9 _ ?_; clear hK9 K9) | (simp only [push_cast]; done)
  all_goals simp only [push_cast, ↓brB_true, ↓brB_false, ↓reduceIte, zA, zB, zC, zD, zE, zF, zG, zH, zI, reduceCtorEq]
  all_goals repeat' (first | (apply brB_mk <;> (intro hg; (try simp only [push_cast] at hg))) | (refine ⟨_, _, hP, ?_⟩; simp only [push_cast, ↓brB_true, ↓brB_false, ↓reduceIte, zA, zB, zC, zD, zE, zF, zG, zH, zI, reduceCtorEq]) | apply And.intro | (intro hg; (try simp only [push_cast] at hg)))
  all_goals first | exact True.intro | exact rfl | contradiction | omega | with_reducible assumption | skip
  all_goals first | (refine hK _ ?_; clear hK K) | (simp only [push_cast]; done)
  refine awp_seq' fun K1 hK1 => ?_
  refine awp_settle 2 12 (Nat.le_of_ble_eq_true rfl) ?_
  simp only [push_cast, ↓brB_true, ↓brB_false, ↓reduceIte, zA, zB, zC, zD, zE, zF, zG, zH, zI, reduceCtorEq]
  refine awp_seq' fun K hK => ?_
  refine awp_region tyOk tyPos [] rfl ?_
  simp only [push_cast, ↓brB_true, ↓brB_false, ↓reduceIte, zA, zB, zC, zD, zE, zF, zG, zH, zI, reduceCtorEq]
  repeat' apply And.intro
  all_goals first | exact True.intro | exact rfl | omega | with_reducible assumption | (simp only [List.length_set, List.length_append, List.length_replicate, List.length_cons, List.length_nil]; omega) | skip
  all_goals first | (refine hK _ ?_; clear hK K) | (simp only [push_cast]; done)
  refine awp_cond rfl (fun hc => ?_) (fun hc => ?_)
  skip
  · exfalso; first | (cases hc; done) | (simp only [push_cast] at hc; done) | (simp only [push_cast] at hc; omega) | omega
  refine awp_skip ?_
  (try simp only [AThen, ABlk, reduceIte, zF]); refine hK1 _ ?_
  refine awp_seq' fun K hK => ?_
  refine awp_region tyOk tyPos [] rfl ?_
  all_goals refine aops_cut 5 fun K9 hK9 => ?_
  all_goals simp only [push_cast, ↓brB_true, ↓brB_false, ↓reduceIte, zA, zB, zC, zD, zE, zF, zG, zH, zI, reduceCtorEq]
  all_goals repeat' (first | (apply brB_mk <;> (intro hg; (try simp only [push_cast] at hg))) | (refine ⟨_, hPl, ?_⟩; simp only [push_cast, ↓brB_true, ↓brB_false, ↓reduceIte, zA, zB, zC, zD, zE, zF, zG, zH, zI, reduceCtorEq]) | apply And.intro | (intro hg; (try simp only [push_cast] at hg)))
  all_goals first | exact True.intro | exact rfl | contradiction | omega | with_reducible assumption | skip
  all_goals first | (refine hK9 _ ?_; clear hK9 K9) | (simp only [push_cast]; done)
  all_goals simp only [push_cast, ↓brB_true, ↓brB_false, ↓reduceIte, zA, zB, zC, zD, zE, zF, zG, zH, zI, reduceCtorEq]
  all_goals repeat' (first | (apply brB_mk <;> (intro hg; (try simp only [push_cast] at hg))) | (refine ⟨_, hPl, ?_⟩; simp only [push_cast, ↓brB_true, ↓brB_false, ↓reduceIte, zA, zB, zC, zD, zE, zF, zG, zH, zI, reduceCtorEq]) | apply And.intro | (intro hg; (try simp only [push_cast] at hg)))
  all_goals first | exact True.intro | exact rfl | contradiction | omega | with_reducible assumption | skip
  all_goals first | (refine hK _ ?_; clear hK K) | (simp only [push_cast]; done)
  refine awp_seq' fun K hK => ?_
  refine awp_region tyOk tyPos [] rfl ?_
  simp only [push_cast, ↓brB_true, ↓brB_false, ↓reduceIte, zA, zB, zC, zD, zE, zF, zG, zH, zI, reduceCtorEq]
  repeat' apply And.intro
  all_goals first | exact True.intro | exact rfl | omega | with_reducible assumption | (simp only [List.length_set, List.length_append, List.length_replicate, List.length_cons, List.length_nil]; omega) | skip
  all_goals first | (refine hK _ ?_; clear hK K) | (simp only [push_cast]; done)
  refine awp_ret ?_
  (try simp only [AThen, ABlk])
  refine ⟨Or.inl rfl, ?_⟩
  simp only [RetB, RetOk, cellsB, resVars, resVar, push_cast, ↓brB_true, ↓brB_false, ↓reduceIte, zA, zB, zC, zD, zE, zF, zG, zH, zI, reduceCtorEq]
end Go.Proofs.Ytdbecmmeifdafaa
