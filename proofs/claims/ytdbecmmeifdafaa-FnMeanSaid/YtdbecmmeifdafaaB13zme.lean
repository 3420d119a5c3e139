/- full plans and plays by them: plain -/
import Derived.Test.YtdbecmmeifdafaaB12zme
import Derived.Test.YtdbecmmeifdafaaGWzme
import Derived.Test.YtdbecmmeifdafaaB6zme
import Derived.Test.YtdbecmmeifdafaaB7zme
namespace Go.Proofs.Ytdbecmmeifdafaa
open Go.RowKit
set_option linter.unusedVariables false
set_option linter.unusedSimpArgs false

theorem nodup_le : ∀ (N : Nat) (l : List Nat), l.Nodup → (∀ x ∈ l, x < N) → l.length ≤ N
  | 0, l, _, h => by
    cases l with
    | nil => simp
    | cons x l => have := h x List.mem_cons_self; omega
  | N + 1, l, hn, h => by
    have h1 := List.length_eq_countP_add_countP (p := fun x => x == N) (l := l)
    have h2 : l.countP (fun x => x == N) ≤ 1 := List.nodup_iff_count.1 hn N
    have h4 := nodup_le N (l.filter (fun x => !(x == N))) (hn.filter _) fun x hx => by
      have h5 := List.mem_filter.1 hx
      have h6 := h x h5.1
      have h7 : ¬ x = N := by simpa using h5.2
      omega
    have h3 : (l.filter (fun x => !(x == N))).length = l.countP (fun x => !(x == N)) := (List.countP_eq_length_filter ..).symm
    have h8 : l.countP (fun x => decide ¬ (x == N) = true) = l.countP (fun x => !(x == N)) := by
      congr 1
      funext x
      by_cases e : x = N <;> simp [e]
    omega
theorem gi_snoc {xs : List Int} {y : Int} {j : Nat} (h : j < xs.length + 1) : gi (xs ++ [y]) j = if j = xs.length then y else gi xs j := by
  by_cases e : j = xs.length
  · subst e; rw [if_pos rfl, gi_app_at]
  · rw [if_neg e, gi_app (by omega)]
def fullB (a : Ar) (who : Int) (plan : List Int) : Bool := planB a who plan && allB plan.length (fun v => !(decide (gi a.owner v = who) && decide (gi plan v < 0)))
theorem fullB_no1 {a : Ar} {who : Int} {plan : List Int} (h : planB a who plan = false) : fullB a who plan = false := by unfold fullB; rw [h]; rfl
theorem fullB_no2 {a : Ar} {who : Int} {plan : List Int} {v : Nat} (hv : v < plan.length) (h : gi a.owner v = who) (h2 : gi plan v < 0) : fullB a who plan = false := by
  unfold fullB; rw [allB_false hv (by rw [decide_eq_true h, decide_eq_true h2]; rfl), Bool.and_false]
theorem fullB_yes {a : Ar} {who : Int} {plan : List Int} (h : planB a who plan = true) (h2 : ∀ v, v < plan.length → ¬ (gi a.owner v = who ∧ gi plan v < 0)) : fullB a who plan = true := by
  unfold fullB
  rw [h, allB_true fun v hv => by
    have := h2 v hv
    rw [Bool.not_eq_true', Bool.and_eq_false_iff, decide_eq_false_iff_not, decide_eq_false_iff_not]
    omega]
  rfl
theorem setB_at' {xs : List Int} {n : Int} (h : isSetB xs n = true) {j : Nat} (hj : j < xs.length) : 0 ≤ gi xs j ∧ gi xs j < n := by
  have := allB_at h hj
  unfold riseAt at this
  have := of_decide_eq_true this
  exact ⟨this.1, this.2.1⟩
theorem has_rg {a : Ar} (h : arenaB a = true) {v : Nat} (hv : v < a.owner.length) {u : Int} (hu : hasB (gl a.next v) u = true) : 0 ≤ u ∧ u < a.owner.length := by
  have h1 := (arenaB_at h hv).2.2.2.2
  unfold hasB fidx at hu
  rw [decide_eq_true_eq] at hu
  have h2 := List.findIdx_getElem (p := fun y => y == u) (xs := gl a.next v) (w := hu)
  have h3 := setB_at' h1 hu
  have h4 : gi (gl a.next v) ((gl a.next v).findIdx fun y => y == u) = u := by
    unfold gi
    rw [List.getD_eq_getElem?_getD, List.getElem?_eq_getElem hu]
    simpa using h2
  rw [h4] at h3
  exact h3
theorem fullB_facts {a : Ar} {who : Int} {plan : List Int} (h : fullB a who plan = true) : planB a who plan = true ∧ ∀ v, v < plan.length → ¬ (gi a.owner v = who ∧ gi plan v < 0) := by
  unfold fullB at h
  rw [Bool.and_eq_true] at h
  refine ⟨h.1, fun v hv => ?_⟩
  have := allB_at (p := fun v => !(decide (gi a.owner v = who) && decide (gi plan v < 0))) h.2 hv
  simp only [Bool.not_eq_true', Bool.and_eq_false_iff, decide_eq_false_iff_not] at this
  omega
def goP (a : Ar) (even odd : List Int) (v : Int) : Int := if gi a.owner v.toNat = 0 then gi even v.toNat else gi odd v.toNat
def runP (a : Ar) (even odd : List Int) : Nat → List Int → Int → Ls
  | 0, _, _ => ⟨[], []⟩
  | F + 1, met, v => if fidx met v < met.length then ⟨met.take (fidx met v), met.drop (fidx met v)⟩ else runP a even odd F (met ++ [v]) (goP a even odd v)
theorem runP_hit {a : Ar} {even odd : List Int} {F : Nat} {met : List Int} {v : Int} (h : hasB met v = true) : runP a even odd (F + 1) met v = ⟨met.take (fidx met v), met.drop (fidx met v)⟩ := if_pos (of_decide_eq_true h)
theorem runP_go {a : Ar} {even odd : List Int} {F : Nat} {met : List Int} {v : Int} (h : hasB met v = false) : runP a even odd (F + 1) met v = runP a even odd F (met ++ [v]) (goP a even odd v) := if_neg (of_decide_eq_false h)
structure MetI (a : Ar) (even odd : List Int) (v0 : Int) (met : List Int) (v : Int) : Prop where
  rg : ∀ j, j < met.length → 0 ≤ gi met j ∧ gi met j < a.owner.length
  ne : ∀ j, j < met.length → ∀ i, i < j → ¬ gi met i = gi met j
  go : ∀ j, j + 1 < met.length → gi met (j + 1) = goP a even odd (gi met j)
  last : 1 ≤ met.length → v = goP a even odd (gi met (met.length - 1))
  f0 : met.length = 0 → v = v0
  f1 : 1 ≤ met.length → gi met 0 = v0
  hv : 0 ≤ v ∧ v < a.owner.length
theorem MetI.start {a : Ar} {even odd : List Int} {v0 : Int} (h : 0 ≤ v0 ∧ v0 < a.owner.length) : MetI a even odd v0 [] v0 :=
  ⟨fun j hj => by simp at hj, fun j hj => by simp at hj, fun j hj => by simp at hj, fun h => by simp at h, fun _ => rfl, fun h => by simp at h, h⟩
theorem MetI.next {a : Ar} {even odd : List Int} {v0 : Int} {met : List Int} {v : Int} (h : MetI a even odd v0 met v) (hn : hasB met v = false) (hg : 0 ≤ goP a even odd v ∧ goP a even odd v < a.owner.length) : MetI a even odd v0 (met ++ [v]) (goP a even odd v) := by
  have hne : ∀ i, i < met.length → ¬ gi met i = v := fun i hi e => by
    have h1 : v ∈ met := by rw [← e]; exact List.mem_of_getElem? (gi_lt hi)
    rw [← hasB_iff] at h1
    rw [h1] at hn
    cases hn
  have hl : (met ++ [v]).length = met.length + 1 := by simp
  refine ⟨fun j hj => ?_, fun j hj i hi => ?_, fun j hj => ?_, fun _ => ?_, fun e => by rw [hl] at e; omega, fun _ => ?_, hg⟩
  · rw [hl] at hj
    rw [gi_snoc hj]
    split
    · exact h.hv
    · exact h.rg j (by omega)
  · rw [hl] at hj
    rw [gi_snoc hj, gi_snoc (by omega), if_neg (by omega)]
    split
    · exact hne i (by omega)
    · exact h.ne j (by omega) i hi
  · rw [hl] at hj
    rw [gi_snoc (j := j + 1) (by omega), gi_snoc (j := j) (by omega), if_neg (show ¬ j = met.length by omega)]
    split
    · have h5 := h.last (by omega)
      rw [show met.length - 1 = j from by omega] at h5
      exact h5
    · exact h.go j (by omega)
  · rw [hl, Nat.add_sub_cancel, gi_snoc (j := met.length) (by omega), if_pos rfl]
  · rw [gi_snoc (by omega)]
    split
    · exact h.f0 (by omega)
    · exact h.f1 (by omega)
theorem nodup_rng {f : Nat → Nat} : ∀ n, (∀ i j, i < j → j < n → f i ≠ f j) → ((List.range n).map f).Nodup
  | 0, _ => by simp
  | n + 1, h => by
    rw [List.range_succ, List.map_append, List.nodup_append]
    refine ⟨nodup_rng n fun i j hij hj => h i j hij (by omega), by simp, fun x hx y hy => ?_⟩
    obtain ⟨i, hi, rfl⟩ := List.mem_map.1 hx
    have hy2 : y = f n := by simpa using hy
    rw [hy2]
    exact h i n (List.mem_range.1 hi) (by omega)
theorem MetI.le {a : Ar} {even odd : List Int} {v0 : Int} {met : List Int} {v : Int} (h : MetI a even odd v0 met v) : met.length ≤ a.owner.length := by
  have hl : ((List.range met.length).map fun j => (gi met j).toNat).length = met.length := by simp
  rw [← hl]
  refine nodup_le _ _ (nodup_rng _ fun i j hij hj => ?_) fun x hx => ?_
  · have h1 := h.ne j hj i hij
    have h2 := h.rg i (by omega)
    have h3 := h.rg j hj
    omega
  · obtain ⟨j, hj, rfl⟩ := List.mem_map.1 hx
    have := h.rg j (List.mem_range.1 hj)
    omega
theorem goP_ok {a : Ar} (ha : arenaB a = true) {even odd : List Int} (h0 : fullB a 0 even = true) (h1 : fullB a 1 odd = true) {v : Int} (hv : 0 ≤ v ∧ v < a.owner.length) : hasB (gl a.next v.toNat) (goP a even odd v) = true ∧ 0 ≤ goP a even odd v ∧ goP a even odd v < a.owner.length := by
  obtain ⟨p0, q0⟩ := fullB_facts h0
  obtain ⟨p1, q1⟩ := fullB_facts h1
  obtain ⟨l0, a0⟩ := planB_at p0
  obtain ⟨l1, a1⟩ := planB_at p1
  have ho := (arenaB_at ha (v := v.toNat) (by omega))
  have h9 : hasB (gl a.next v.toNat) (goP a even odd v) = true := by
    unfold goP
    split
    · rename_i e
      have := q0 v.toNat (by omega)
      rcases a0 v.toNat (by omega) with e2 | e2
      · omega
      · exact e2.2
    · rename_i e
      have := q1 v.toNat (by omega)
      have h5 := ho.1
      have h6 := ho.2.1
      rcases a1 v.toNat (by omega) with e2 | e2
      · omega
      · exact e2.2
  exact ⟨h9, has_rg ha (by omega) h9⟩
theorem runP_ex {a : Ar} (ha : arenaB a = true) {even odd : List Int} (h0 : fullB a 0 even = true) (h1 : fullB a 1 odd = true) {v0 : Int} : ∀ (F : Nat) (met : List Int) (v : Int), MetI a even odd v0 met v → a.owner.length + 1 ≤ F + met.length →
    ∃ m2 v2, MetI a even odd v0 m2 v2 ∧ fidx m2 v2 < m2.length ∧ runP a even odd F met v = ⟨m2.take (fidx m2 v2), m2.drop (fidx m2 v2)⟩
  | 0, met, v, hM, hF => by have := hM.le; omega
  | F + 1, met, v, hM, hF => by
    cases hb : hasB met v
    · rw [runP_go hb]
      exact runP_ex ha h0 h1 F _ _ (hM.next hb (goP_ok ha h0 h1 hM.hv).2) (by rw [List.length_append]; simp; omega)
    · exact ⟨met, v, hM, of_decide_eq_true hb, runP_hit hb⟩
def playB (a : Ar) (even odd : List Int) (v : Int) : Bool := arenaB a && (fullB a 0 even && (fullB a 1 odd && decide (0 ≤ v ∧ v < a.owner.length)))
def playL (a : Ar) (even odd : List Int) (v : Int) : Ls := if playB a even odd v then runP a even odd 257 [] v else ⟨[], []⟩
theorem playB_yes {a : Ar} {even odd : List Int} {v : Int} (ha : arenaB a = true) (h0 : fullB a 0 even = true) (h1 : fullB a 1 odd = true) (hv : 0 ≤ v ∧ v < a.owner.length) : playB a even odd v = true := by unfold playB; rw [ha, h0, h1, decide_eq_true hv]; rfl
theorem playL_no {a : Ar} {even odd : List Int} {v : Int} (h : playB a even odd v = false) : playL a even odd v = ⟨[], []⟩ := if_neg (by rw [h]; decide)
theorem playL_yes {a : Ar} {even odd : List Int} {v : Int} (h : playB a even odd v = true) : playL a even odd v = runP a even odd 257 [] v := if_pos h
structure PlayP (a : Ar) (even odd : List Int) (v0 : Int) (l : Ls) : Prop where
  ok : lassoB a l = true
  first : gi (wayL l) 0 = v0
  rg : ∀ i, i ≤ l.stem.length + l.loop.length → 0 ≤ gi (wayL l) i ∧ gi (wayL l) i < a.owner.length
  go : ∀ i, i < l.stem.length + l.loop.length → gi (wayL l) (i + 1) = goP a even odd (gi (wayL l) i)
  last : gi (wayL l) (l.stem.length + l.loop.length) = gi (wayL l) l.stem.length
  pos : 1 ≤ l.loop.length
  len : l.stem.length + l.loop.length ≤ a.owner.length
theorem play_is {a : Ar} (ha : arenaB a = true) {even odd : List Int} (h0 : fullB a 0 even = true) (h1 : fullB a 1 odd = true) {v0 : Int} (hv : 0 ≤ v0 ∧ v0 < a.owner.length) : PlayP a even odd v0 (playL a even odd v0) := by
  have hn := (arenaB_len ha).2.1
  obtain ⟨m, v, hM, hk, he⟩ := runP_ex ha h0 h1 257 [] v0 (MetI.start hv) (by simp; omega)
  rw [playL_yes (playB_yes ha h0 h1 hv), he]
  have hle := hM.le
  have hsp := fidx_spec hk
  generalize fidx m v = k at hk hsp ⊢
  have hls : (m.take k).length = k := by rw [List.length_take]; omega
  have hll : (m.drop k).length = m.length - k := List.length_drop ..
  have hg0 : gi (m.drop k) 0 = v := by
    rw [← hsp]
    unfold gi
    rw [List.getD_eq_getElem?_getD, List.getElem?_drop, List.getD_eq_getElem?_getD, Nat.add_zero]
  have hw : wayL ⟨m.take k, m.drop k⟩ = m ++ [v] := by
    unfold wayL
    show m.take k ++ m.drop k ++ [gi (m.drop k) 0] = _
    rw [List.take_append_drop, hg0]
  have hlen : (wayL ⟨m.take k, m.drop k⟩).length = m.length + 1 := by rw [hw]; simp
  have hrg : ∀ i, i < m.length + 1 → 0 ≤ gi (m ++ [v]) i ∧ gi (m ++ [v]) i < a.owner.length := fun i hi => by
    rw [gi_snoc hi]
    split
    · exact hM.hv
    · exact hM.rg i (by omega)
  have hgo : ∀ i, i < m.length → gi (m ++ [v]) (i + 1) = goP a even odd (gi (m ++ [v]) i) := fun i hi => by
    rw [gi_snoc (j := i + 1) (by omega), gi_snoc (j := i) (by omega), if_neg (show ¬ i = m.length by omega)]
    split
    · have h5 := hM.last (by omega)
      rw [show m.length - 1 = i from by omega] at h5
      exact h5
    · exact hM.go i (by omega)
  refine ⟨lassoB_iff.2 ⟨?_, ?_, ?_⟩, ?_, ?_, ?_, ?_, ?_, ?_⟩
  · show (m.take k).length ≤ 256 ∧ 1 ≤ (m.drop k).length ∧ (m.drop k).length ≤ 256
    omega
  · intro j hj
    rw [hlen] at hj
    rw [hw]
    exact hrg j hj
  · intro j hj1 hj
    rw [hlen] at hj
    rw [hw]
    obtain ⟨i, rfl⟩ : ∃ i, j = i + 1 := ⟨j - 1, by omega⟩
    rw [hgo i (by omega), Nat.add_sub_cancel]
    exact (goP_ok ha h0 h1 (hrg i (by omega))).1
  · rw [hw, gi_snoc (by omega)]
    split
    · exact hM.f0 (by omega)
    · exact hM.f1 (by omega)
  · intro i hi
    rw [hw]
    refine hrg i ?_
    have : i ≤ (m.take k).length + (m.drop k).length := hi
    omega
  · intro i hi
    rw [hw]
    refine hgo i ?_
    have : i < (m.take k).length + (m.drop k).length := hi
    omega
  · show gi (wayL ⟨m.take k, m.drop k⟩) ((m.take k).length + (m.drop k).length) = gi (wayL ⟨m.take k, m.drop k⟩) (m.take k).length
    rw [hw, hls, hll, show k + (m.length - k) = m.length from by omega, gi_snoc (j := m.length) (by omega), gi_snoc (j := k) (by omega), if_pos rfl, if_neg (show ¬ k = m.length by omega), hsp]
  · show 1 ≤ (m.drop k).length
    omega
  · show (m.take k).length + (m.drop k).length ≤ a.owner.length
    omega
theorem playL_len (a : Ar) (even odd : List Int) (v : Int) : (playL a even odd v).Ln 1048576 := by
  cases h : playB a even odd v
  · rw [playL_no h]; exact ⟨by simp [LnI], by simp [LnI]⟩
  · unfold playB at h
    simp only [Bool.and_eq_true, decide_eq_true_eq] at h
    have := (lassoB_iff.1 (play_is h.1 h.2.1 h.2.2.1 h.2.2.2).ok).1
    exact ⟨by unfold LnI; omega, by unfold LnI; omega⟩
end Go.Proofs.Ytdbecmmeifdafaa

namespace Go.Proofs.Ytdbecmmeifdafaa
open Nat renaming reduceMod → zA, reduceMul → zB, reduceDiv → zC, reduceAdd → zD, reduceSub → zE, reduceEqDiff → zF, reduceBEq → zG, reduceLT → zH, reduceLeDiff → zI
open Go.RowKit
set_option linter.unusedVariables false
set_option linter.unusedSimpArgs false

set_option maxRecDepth 20000 in
set_option maxHeartbeats 4000000 in
theorem FullIn_fn (a : Ar) (ha : a.Ln 1048576) (hok : arenaB a = true) (who : Int) (hw : 0 ≤ who ∧ who ≤ 1) (plan : List Int) (hp : plan.length ≤ 1048576) : Fn Try.prog tyT 82 [.agg (dAr a), .c (.int .i64 who), .c (DI plan)] [.c (.bool (fullB a who plan))] := by
  have hno := ha.owner
  unfold LnI at hno
  have hP := PlanOkS_fn a ha who plan hp
  rw [planOk_eq hok hw] at hP
  unfold dAr at hP ⊢
  refine Fn_of (fn := Try.f82) (ts := [6]) Try.func82 (by kernel_rfl) rfl rfl (by rw [Try.ntmps82]; exact Nat.le_of_ble_eq_true rfl) rfl (by simp only [szA, List.mem_cons, List.not_mem_nil, or_false, forall_eq_or_imp, forall_eq, VT.cells, szL]; try decide) ?_
  rw [Try.ntmps82]
  simp only [push_cast, ↓brB_true, ↓brB_false, ↓reduceIte, zA, zB, zC, zD, zE, zF, zG, zH, zI, reduceCtorEq]
  refine awp_seq' fun K hK => ?_
  refine awp_region tyOk tyPos [] rfl ?_
  simp only [push_cast, ↓brB_true, ↓brB_false, ↓reduceIte, zA, zB, zC, zD, zE, zF, zG, zH, zI, reduceCtorEq]
  repeat' apply And.intro
  all_goals try exact gB
  all_goals first | (refine hK _ ?_; clear hK K) | (simp only [push_cast]; done)
  refine awp_seq' fun K1 hK1 => ?_
  refine awp_seq' fun K hK => ?_
  refine awp_region tyOk tyPos [] rfl ?_
  all_goals refine aops_cut 4 fun K9 hK9 => ?_
  all_goals simp only [push_cast, ↓brB_true, ↓brB_false, ↓reduceIte, zA, zB, zC, zD, zE, zF, zG, zH, zI, reduceCtorEq]
  all_goals repeat' (first | (apply brB_mk <;> (intro hg; (try simp only [push_cast] at hg))) | (refine ⟨_, hP, ?_⟩; simp only [push_cast, ↓brB_true, ↓brB_false, ↓reduceIte, zA, zB, zC, zD, zE, zF, zG, zH, zI, reduceCtorEq]) | apply And.intro | (intro hg; (try simp only [push_cast] at hg)))
  all_goals try exact gA
  all_goals first | (refine hK9 _ ?_; clear hK9 K9) | (simp only [push_cast]; done)
  all_goals simp only [push_cast, ↓brB_true, ↓brB_false, ↓reduceIte, zA, zB, zC, zD, zE, zF, zG, zH, zI, reduceCtorEq]
  all_goals repeat' (first | (apply brB_mk <;> (intro hg; (try simp only [push_cast] at hg))) | (refine ⟨_, hP, ?_⟩; simp only [push_cast, ↓brB_true, ↓brB_false, ↓reduceIte, zA, zB, zC, zD, zE, zF, zG, zH, zI, reduceCtorEq]) | apply And.intro | (intro hg; (try simp only [push_cast] at hg)))
  all_goals try exact gA
  all_goals first | (refine hK _ ?_; clear hK K) | (simp only [push_cast]; done)
  refine awp_cond rfl (fun hc => ?_) (fun hc => ?_) <;> (try simp only [push_cast] at hc)
  ·
    refine awp_seq' fun K hK => ?_
    refine awp_region tyOk tyPos [] rfl ?_
    simp only [push_cast, ↓brB_true, ↓brB_false, ↓reduceIte, zA, zB, zC, zD, zE, zF, zG, zH, zI, reduceCtorEq]
    repeat' apply And.intro
    all_goals try exact gB
    all_goals first | (refine hK _ ?_; clear hK K) | (simp only [push_cast]; done)
    refine awp_ret ?_
    (try simp only [AThen, ABlk])
    refine ⟨Or.inl rfl, ?_⟩
    simp only [RetOk, push_cast, ↓brB_true, ↓brB_false, ↓reduceIte, zA, zB, zC, zD, zE, zF, zG, zH, zI, reduceCtorEq]
    symm
    exact fullB_no1 (by with_reducible assumption)
  ·
    refine awp_skip ?_
    (try simp only [AThen, ABlk, reduceIte, zF]); refine hK1 _ ?_
    refine awp_seq' fun K2 hK2 => ?_
    have hpok : planB a who plan = true := by with_reducible assumption
    have hpn := (planB_at hpok).1
    refine awp_seq' fun K hK => ?_
    refine awp_region tyOk tyPos [] rfl ?_
    simp only [push_cast, ↓brB_true, ↓brB_false, ↓reduceIte, zA, zB, zC, zD, zE, zF, zG, zH, zI, reduceCtorEq]
    repeat' apply And.intro
    all_goals try exact gB
    all_goals first | (refine hK _ ?_; clear hK K) | (simp only [push_cast]; done)
    refine awp_block ?_
    refine awp_loopU [6,7,13,14,15,16,17,18,19,20,21,22,23,24,25,26,27,28,29,30,31,32] [] (fun (k : Nat) => [(7, .int .i64 k)]) (fun k => []) (fun k => []) (fun k => k ≤ plan.length ∧ ∀ j, j < k → ¬ (gi a.owner j = who ∧ gi plan j < 0)) (fun k => plan.length - k) 0 ?_ ⟨by omega, fun j hj => by omega⟩ ?_
    ·
      refine cov_of rfl ?_ ?_ ?_ <;> simp only [covS, covL, push_cast, ↓brB_true, ↓brB_false, ↓reduceIte, zA, zB, zC, zD, zE, zF, zG, zH, zI, reduceCtorEq]
    · rintro k ⟨hk, hall⟩ KL0 hL0
      skip
      simp only [push_cast, ↓brB_true, ↓brB_false, ↓reduceIte, zA, zB, zC, zD, zE, zF, zG, zH, zI, reduceCtorEq]
      refine awp_seq' fun K3 hK3 => ?_
      refine awp_seq' fun K hK => ?_
      refine awp_region tyOk tyPos [] rfl ?_
      simp only [push_cast, ↓brB_true, ↓brB_false, ↓reduceIte, zA, zB, zC, zD, zE, zF, zG, zH, zI, reduceCtorEq]
      repeat' apply And.intro
      all_goals try exact gB
      all_goals first | (refine hK _ ?_; clear hK K) | (simp only [push_cast]; done)
      refine awp_cond rfl (fun hc => ?_) (fun hc => ?_) <;> (try simp only [push_cast] at hc)
      ·
        refine awp_skip ?_
        (try simp only [AThen, ABlk, reduceIte, zF]); refine hK3 _ ?_
        refine awp_seq' fun K4 hK4 => ?_
        refine awp_block ?_
        refine awp_seq' fun K hK => ?_
        refine awp_regionN false tyOk tyPos ?_ rfl ?_
        · kernel_rfl
        all_goals simp only [push_cast, ↓brB_true, ↓brB_false, ↓reduceIte, zA, zB, zC, zD, zE, zF, zG, zH, zI, reduceCtorEq]
        all_goals repeat' (first | (apply brB_mk <;> (intro hg; (try simp only [push_cast] at hg))) | apply And.intro | (intro hg; (try simp only [push_cast] at hg)))
        all_goals try exact gA
        all_goals first | (refine hK _ ?_; clear hK K) | (simp only [push_cast]; done)
        all_goals refine awp_cond rfl (fun hc => ?_) (fun hc => ?_)
        all_goals (first | (cases hc; done) | skip)
        all_goals (try simp only [push_cast] at hc)
        all_goals first
          | (
              refine awp_skip ?_
              (try simp only [AThen, ABlk, reduceIte, zF]); refine hK4 _ ?_
              refine awp_region tyOk tyPos [] rfl ?_
              simp only [push_cast, ↓brB_true, ↓brB_false, ↓reduceIte, zA, zB, zC, zD, zE, zF, zG, zH, zI, reduceCtorEq]
              repeat' apply And.intro
              all_goals try exact gB
              refine hL0 _ ⟨k + 1, ⟨by omega, fun j hj => (by
                  by_cases hjk : j = k
                  · subst hjk; omega
                  · exact hall j (by omega))⟩, by omega, ?_⟩
              refine cov_of rfl ?_ ?_ ?_ <;> simp only [covS, covL, push_cast, ↓brB_true, ↓brB_false, ↓reduceIte, zA, zB, zC, zD, zE, zF, zG, zH, zI, reduceCtorEq]
              done)
          | (
              refine awp_seq' fun K hK => ?_
              refine awp_region tyOk tyPos [] rfl ?_
              simp only [push_cast, ↓brB_true, ↓brB_false, ↓reduceIte, zA, zB, zC, zD, zE, zF, zG, zH, zI, reduceCtorEq]
              repeat' apply And.intro
              all_goals try exact gB
              all_goals first | (refine hK _ ?_; clear hK K) | (simp only [push_cast]; done)
              refine awp_ret ?_
              (try simp only [AThen, ABlk])
              refine ⟨Or.inl rfl, ?_⟩
              simp only [RetOk, push_cast, ↓brB_true, ↓brB_false, ↓reduceIte, zA, zB, zC, zD, zE, zF, zG, zH, zI, reduceCtorEq]
              symm
              exact fullB_no2 (v := k) (by omega) (by omega) (by omega)
              done)
      ·
        refine awp_exit ?_
        (try simp only [AThen, ABlk, reduceIte, zF]); refine hK2 _ ?_
        refine awp_seq' fun K hK => ?_
        refine awp_region tyOk tyPos [] rfl ?_
        simp only [push_cast, ↓brB_true, ↓brB_false, ↓reduceIte, zA, zB, zC, zD, zE, zF, zG, zH, zI, reduceCtorEq]
        repeat' apply And.intro
        all_goals try exact gB
        all_goals first | (refine hK _ ?_; clear hK K) | (simp only [push_cast]; done)
        refine awp_ret ?_
        (try simp only [AThen, ABlk])
        refine ⟨Or.inl rfl, ?_⟩
        simp only [RetOk, push_cast, ↓brB_true, ↓brB_false, ↓reduceIte, zA, zB, zC, zD, zE, zF, zG, zH, zI, reduceCtorEq]
        symm
        exact fullB_yes (by with_reducible assumption) fun v hv => hall v (by omega)
end Go.Proofs.Ytdbecmmeifdafaa

namespace Go.Proofs.Ytdbecmmeifdafaa
open Nat renaming reduceMod → zA, reduceMul → zB, reduceDiv → zC, reduceAdd → zD, reduceSub → zE, reduceEqDiff → zF, reduceBEq → zG, reduceLT → zH, reduceLeDiff → zI
open Go.RowKit
set_option linter.unusedVariables false
set_option linter.unusedSimpArgs false

def fullAt (a : Ar) (who : Int) (plan : List Int) (v : Nat) : Int := if gi a.owner v = who then (if v < plan.length ∧ 0 ≤ gi plan v then gi plan v else gi (gl a.next v) 0) else -1
def fullL (a : Ar) (who : Int) (plan : List Int) (k : Nat) : List Int := (List.range k).map (fullAt a who plan)
theorem fullL_len (a : Ar) (who : Int) (plan : List Int) (k : Nat) : (fullL a who plan k).length = k := by simp [fullL]
theorem fullL_s (a : Ar) (who : Int) (plan : List Int) (k : Nat) : fullL a who plan (k + 1) = fullL a who plan k ++ [fullAt a who plan k] := by simp [fullL, List.range_succ]
theorem fullL_at {a : Ar} {who : Int} {plan : List Int} {k v : Nat} (h : v < k) : gi (fullL a who plan k) v = fullAt a who plan v := by
  unfold gi fullL
  rw [List.getD_eq_getElem?_getD, List.getElem?_map, List.getElem?_range h]
  rfl
theorem fullAt_no {a : Ar} {who : Int} {plan : List Int} {v : Nat} (h : ¬ gi a.owner v = who) : fullAt a who plan v = -1 := if_neg h
theorem fullAt_plan {a : Ar} {who : Int} {plan : List Int} {v : Nat} (h : gi a.owner v = who) (h2 : v < plan.length ∧ 0 ≤ gi plan v) : fullAt a who plan v = gi plan v := by unfold fullAt; rw [if_pos h, if_pos h2]
theorem fullAt_least {a : Ar} {who : Int} {plan : List Int} {v : Nat} (h : gi a.owner v = who) (h2 : ¬ (v < plan.length ∧ 0 ≤ gi plan v)) : fullAt a who plan v = gi (gl a.next v) 0 := by unfold fullAt; rw [if_pos h, if_neg h2]
set_option maxRecDepth 20000 in
set_option maxHeartbeats 4000000 in
theorem l1Place_fn (xs : List Int) (x : Int) (hl : xs.length ≤ 1048576) : Fn Try.prog tyT 85 [.c (DI xs), .c (.int .i64 x)] [.c (.int .i64 (ixB xs x))] := by
  refine Fn_of (fn := Try.f85) (ts := [4]) Try.func85 (by kernel_rfl) rfl rfl (by rw [Try.ntmps85]; exact Nat.le_of_ble_eq_true rfl) rfl (by simp only [szA, List.mem_cons, List.not_mem_nil, or_false, forall_eq_or_imp, forall_eq, VT.cells, szL]; try decide) ?_
  rw [Try.ntmps85]
  simp only [push_cast, ↓brB_true, ↓brB_false, ↓reduceIte, zA, zB, zC, zD, zE, zF, zG, zH, zI, reduceCtorEq]
  refine awp_seq' fun K hK => ?_
  refine awp_region tyOk tyPos [] rfl ?_
  simp only [push_cast, ↓brB_true, ↓brB_false, ↓reduceIte, zA, zB, zC, zD, zE, zF, zG, zH, zI, reduceCtorEq]
  repeat' apply And.intro
  all_goals try exact gB
  all_goals first | (refine hK _ ?_; clear hK K) | (simp only [push_cast]; done)
  refine awp_seq' fun K1 hK1 => ?_
  refine awp_seq' fun K hK => ?_
  refine awp_region tyOk tyPos [] rfl ?_
  simp only [push_cast, ↓brB_true, ↓brB_false, ↓reduceIte, zA, zB, zC, zD, zE, zF, zG, zH, zI, reduceCtorEq]
  repeat' apply And.intro
  all_goals try exact gB
  all_goals first | (refine hK _ ?_; clear hK K) | (simp only [push_cast]; done)
  refine awp_block ?_
  refine awp_loopU [4,5,6,7,8,9,10,11,12,13,14,15,16,17,18] [] (fun (k : Nat) => [(5, .int .i64 k)]) (fun k => []) (fun k => []) (fun k => k ≤ xs.length ∧ ∀ j, j < k → ¬ gi xs j = x) (fun k => xs.length - k) 0 ?_ ⟨by omega, fun j hj => by omega⟩ ?_
  ·
    refine cov_of rfl ?_ ?_ ?_ <;> simp only [covS, covL, push_cast, ↓brB_true, ↓brB_false, ↓reduceIte, zA, zB, zC, zD, zE, zF, zG, zH, zI, reduceCtorEq]
  · rintro k ⟨hk, hall⟩ KL0 hL0
    simp only [push_cast, ↓brB_true, ↓brB_false, ↓reduceIte, zA, zB, zC, zD, zE, zF, zG, zH, zI, reduceCtorEq]
    refine awp_seq' fun K2 hK2 => ?_
    refine awp_seq' fun K hK => ?_
    refine awp_region tyOk tyPos [] rfl ?_
    simp only [push_cast, ↓brB_true, ↓brB_false, ↓reduceIte, zA, zB, zC, zD, zE, zF, zG, zH, zI, reduceCtorEq]
    repeat' apply And.intro
    all_goals try exact gB
    all_goals first | (refine hK _ ?_; clear hK K) | (simp only [push_cast]; done)
    refine awp_cond rfl (fun hc => ?_) (fun hc => ?_) <;> (try simp only [push_cast] at hc)
    ·
      refine awp_skip ?_
      (try simp only [AThen, ABlk, reduceIte, zF]); refine hK2 _ ?_
      refine awp_seq' fun K3 hK3 => ?_
      refine awp_block ?_
      refine awp_seq' fun K hK => ?_
      refine awp_region tyOk tyPos [] rfl ?_
      simp only [push_cast, ↓brB_true, ↓brB_false, ↓reduceIte, zA, zB, zC, zD, zE, zF, zG, zH, zI, reduceCtorEq]
      repeat' apply And.intro
      all_goals try exact gB
      all_goals first | (refine hK _ ?_; clear hK K) | (simp only [push_cast]; done)
      refine awp_cond rfl (fun hc => ?_) (fun hc => ?_) <;> (try simp only [push_cast] at hc)
      ·
        refine awp_seq' fun K hK => ?_
        refine awp_region tyOk tyPos [] rfl ?_
        simp only [push_cast, ↓brB_true, ↓brB_false, ↓reduceIte, zA, zB, zC, zD, zE, zF, zG, zH, zI, reduceCtorEq]
        repeat' apply And.intro
        all_goals try exact gB
        all_goals first | (refine hK _ ?_; clear hK K) | (simp only [push_cast]; done)
        refine awp_ret ?_
        (try simp only [AThen, ABlk])
        refine ⟨Or.inl rfl, ?_⟩
        simp only [RetOk, push_cast, ↓brB_true, ↓brB_false, ↓reduceIte, zA, zB, zC, zD, zE, zF, zG, zH, zI, reduceCtorEq]
        symm
        exact ixB_found (k := k) (by omega) hall (by omega)
      ·
        refine awp_skip ?_
        (try simp only [AThen, ABlk, reduceIte, zF]); refine hK3 _ ?_
        refine awp_region tyOk tyPos [] rfl ?_
        simp only [push_cast, ↓brB_true, ↓brB_false, ↓reduceIte, zA, zB, zC, zD, zE, zF, zG, zH, zI, reduceCtorEq]
        repeat' apply And.intro
        all_goals try exact gB
        refine hL0 _ ⟨k + 1, ⟨by omega, fun j hj => (by
            by_cases hjk : j = k
            · subst hjk; omega
            · exact hall j (by omega))⟩, by omega, ?_⟩
        refine cov_of rfl ?_ ?_ ?_ <;> simp only [covS, covL, push_cast, ↓brB_true, ↓brB_false, ↓reduceIte, zA, zB, zC, zD, zE, zF, zG, zH, zI, reduceCtorEq]
    ·
      refine awp_exit ?_
      (try simp only [AThen, ABlk, reduceIte, zF]); refine hK1 _ ?_
      refine awp_seq' fun K hK => ?_
      refine awp_region tyOk tyPos [] rfl ?_
      simp only [push_cast, ↓brB_true, ↓brB_false, ↓reduceIte, zA, zB, zC, zD, zE, zF, zG, zH, zI, reduceCtorEq]
      repeat' apply And.intro
      all_goals try exact gB
      all_goals first | (refine hK _ ?_; clear hK K) | (simp only [push_cast]; done)
      refine awp_ret ?_
      (try simp only [AThen, ABlk])
      refine ⟨Or.inl rfl, ?_⟩
      simp only [RetOk, push_cast, ↓brB_true, ↓brB_false, ↓reduceIte, zA, zB, zC, zD, zE, zF, zG, zH, zI, reduceCtorEq]
      symm
      exact ixB_none fun j hj => hall j (by omega)
set_option maxRecDepth 20000 in
set_option maxHeartbeats 4000000 in
theorem PlayOf_fn (a : Ar) (ha : a.Ln 1048576) (hok : arenaB a = true) (even odd : List Int) (h0 : fullB a 0 even = true) (h1 : fullB a 1 odd = true) (v0 : Int) (hv0 : 0 ≤ v0 ∧ v0 < a.owner.length) : Fn Try.prog tyT 33 [.agg (dAr a), .c (DI even), .c (DI odd), .c (.int .i64 v0)] [.agg (dLs (playL a even odd v0)), .c (.bool true)] := by
  have hal := arenaB_len hok
  have hno := ha.owner
  unfold LnI at hno
  obtain ⟨f0, q0⟩ := fullB_facts h0
  obtain ⟨f1, q1⟩ := fullB_facts h1
  have l0 := (planB_at f0).1
  have l1 := (planB_at f1).1
  have hF0 := FullIn_fn a ha hok 0 (by omega) even (by omega)
  have hF1 := FullIn_fn a ha hok 1 (by omega) odd (by omega)
  rw [h0] at hF0
  rw [h1] at hF1
  have hT := l1There_fn a v0 (by omega)
  rw [decide_eq_true hv0] at hT
  have hR0 := (playL_yes (playB_yes hok h0 h1 hv0)).symm
  generalize hR : playL a even odd v0 = R at hR0
  unfold dAr at hF0 hF1 hT
  unfold dAr dLs
  refine Fn_ofR (fn := Try.f33) (rs := [.cell 8 43, .tmp 9]) tyOk tyPos Try.func33 (by kernel_rfl) rfl rfl (by rw [Try.ntmps33]; exact Nat.le_of_ble_eq_true rfl) rfl (by simp only [szA, List.mem_cons, List.not_mem_nil, or_false, forall_eq_or_imp, forall_eq, VT.cells, szL]; try decide) ?_
  rw [Try.ntmps33]
  simp only [push_cast, ↓brB_true, ↓brB_false, ↓reduceIte, zA, zB, zC, zD, zE, zF, zG, zH, zI, reduceCtorEq]
  refine awp_seq' fun K hK => ?_
  refine awp_region tyOk tyPos [] rfl ?_
  simp only [push_cast, ↓brB_true, ↓brB_false, ↓reduceIte, zA, zB, zC, zD, zE, zF, zG, zH, zI, reduceCtorEq]
  repeat' apply And.intro
  all_goals try exact gB
  all_goals first | (refine hK _ ?_; clear hK K) | (simp only [push_cast]; done)
  refine awp_seq' fun K1 hK1 => ?_
  refine awp_seq' fun K hK => ?_
  refine awp_regionN false tyOk tyPos ?_ rfl ?_
  · kernel_rfl
  all_goals refine seqE_cut 3 fun K9 hK9 => ?_
  all_goals simp only [push_cast, ↓brB_true, ↓brB_false, ↓reduceIte, zA, zB, zC, zD, zE, zF, zG, zH, zI, reduceCtorEq]
  all_goals repeat' (first | (apply brB_mk <;> (intro hg; (try simp only [push_cast] at hg))) | (refine ⟨_, hF0, ?_⟩; simp only [push_cast, ↓brB_true, ↓brB_false, ↓reduceIte, zA, zB, zC, zD, zE, zF, zG, zH, zI, reduceCtorEq]) | (refine ⟨_, hF1, ?_⟩; simp only [push_cast, ↓brB_true, ↓brB_false, ↓reduceIte, zA, zB, zC, zD, zE, zF, zG, zH, zI, reduceCtorEq]) | (refine ⟨_, hT, ?_⟩; simp only [push_cast, ↓brB_true, ↓brB_false, ↓reduceIte, zA, zB, zC, zD, zE, zF, zG, zH, zI, reduceCtorEq]) | apply And.intro | (intro hg; (try simp only [push_cast] at hg)))
  all_goals try exact gA
  all_goals first | (refine hK9 _ ?_; clear hK9 K9) | (simp only [push_cast]; done)
  all_goals refine seqE_cut 5 fun K9 hK9 => ?_
  all_goals simp only [push_cast, ↓brB_true, ↓brB_false, ↓reduceIte, zA, zB, zC, zD, zE, zF, zG, zH, zI, reduceCtorEq]
  all_goals repeat' (first | (apply brB_mk <;> (intro hg; (try simp only [push_cast] at hg))) | (refine ⟨_, hF0, ?_⟩; simp only [push_cast, ↓brB_true, ↓brB_false, ↓reduceIte, zA, zB, zC, zD, zE, zF, zG, zH, zI, reduceCtorEq]) | (refine ⟨_, hF1, ?_⟩; simp only [push_cast, ↓brB_true, ↓brB_false, ↓reduceIte, zA, zB, zC, zD, zE, zF, zG, zH, zI, reduceCtorEq]) | (refine ⟨_, hT, ?_⟩; simp only [push_cast, ↓brB_true, ↓brB_false, ↓reduceIte, zA, zB, zC, zD, zE, zF, zG, zH, zI, reduceCtorEq]) | apply And.intro | (intro hg; (try simp only [push_cast] at hg)))
  all_goals try exact gA
  all_goals first | (refine hK9 _ ?_; clear hK9 K9) | (simp only [push_cast]; done)
  all_goals refine seqE_cut 6 fun K9 hK9 => ?_
  all_goals simp only [push_cast, ↓brB_true, ↓brB_false, ↓reduceIte, zA, zB, zC, zD, zE, zF, zG, zH, zI, reduceCtorEq]
  all_goals repeat' (first | (apply brB_mk <;> (intro hg; (try simp only [push_cast] at hg))) | (refine ⟨_, hF0, ?_⟩; simp only [push_cast, ↓brB_true, ↓brB_false, ↓reduceIte, zA, zB, zC, zD, zE, zF, zG, zH, zI, reduceCtorEq]) | (refine ⟨_, hF1, ?_⟩; simp only [push_cast, ↓brB_true, ↓brB_false, ↓reduceIte, zA, zB, zC, zD, zE, zF, zG, zH, zI, reduceCtorEq]) | (refine ⟨_, hT, ?_⟩; simp only [push_cast, ↓brB_true, ↓brB_false, ↓reduceIte, zA, zB, zC, zD, zE, zF, zG, zH, zI, reduceCtorEq]) | apply And.intro | (intro hg; (try simp only [push_cast] at hg)))
  all_goals try exact gA
  all_goals first | (refine hK9 _ ?_; clear hK9 K9) | (simp only [push_cast]; done)
  all_goals simp only [push_cast, ↓brB_true, ↓brB_false, ↓reduceIte, zA, zB, zC, zD, zE, zF, zG, zH, zI, reduceCtorEq]
  all_goals repeat' (first | (apply brB_mk <;> (intro hg; (try simp only [push_cast] at hg))) | (refine ⟨_, hF0, ?_⟩; simp only [push_cast, ↓brB_true, ↓brB_false, ↓reduceIte, zA, zB, zC, zD, zE, zF, zG, zH, zI, reduceCtorEq]) | (refine ⟨_, hF1, ?_⟩; simp only [push_cast, ↓brB_true, ↓brB_false, ↓reduceIte, zA, zB, zC, zD, zE, zF, zG, zH, zI, reduceCtorEq]) | (refine ⟨_, hT, ?_⟩; simp only [push_cast, ↓brB_true, ↓brB_false, ↓reduceIte, zA, zB, zC, zD, zE, zF, zG, zH, zI, reduceCtorEq]) | apply And.intro | (intro hg; (try simp only [push_cast] at hg)))
  all_goals try exact gA
  all_goals first | (refine hK _ ?_; clear hK K) | (simp only [push_cast]; done)
  refine awp_cond rfl (fun hc => ?_) (fun hc => ?_)
  skip
  · exfalso; first | (cases hc; done) | (simp only [push_cast] at hc; done) | (simp only [push_cast] at hc; omega) | omega
  refine awp_skip ?_
  (try simp only [AThen, ABlk, reduceIte, zF]); refine hK1 _ ?_
  refine awp_seq' fun K hK => ?_
  refine awp_region tyOk tyPos [] rfl ?_
  simp only [push_cast, ↓brB_true, ↓brB_false, ↓reduceIte, zA, zB, zC, zD, zE, zF, zG, zH, zI, reduceCtorEq]
  repeat' apply And.intro
  all_goals try exact gB
  all_goals first | (refine hK _ ?_; clear hK K) | (simp only [push_cast]; done)
  refine awp_seq' fun K2 hK2 => ?_
  refine awp_block ?_
  refine awp_loopU [3,10,16,22,30,31,32,33,34,35,36,37,38,39,40,41,42,43,44,45,46,47,48,49,50,51] [160] (fun (p : List Int × Int × Nat) => [(3, .int .i64 p.2.1), (10, .sl 160 [] 0 p.1.length 2)]) (fun p => []) (fun p => [(160, ⟨.ex, 2, dI p.1, none⟩)]) (fun p => MetI a even odd v0 p.1 p.2.1 ∧ runP a even odd p.2.2 p.1 p.2.1 = R ∧ p.2.2 + p.1.length = 257) (fun p => p.2.2) ([], v0, 257) ?_ ⟨MetI.start hv0, hR0, rfl⟩ ?_
  ·
    rw [show dI ([] : List Int) = [] from rfl]
    refine cov_of rfl ?_ ?_ ?_ <;> simp only [covS, covL, push_cast, ↓brB_true, ↓brB_false, ↓reduceIte, zA, zB, zC, zD, zE, zF, zG, zH, zI, reduceCtorEq]
  · rintro ⟨met, v, F⟩ ⟨hM, hrun, hF⟩ KL0 hL0
    dsimp only at hM hrun hF
    have hle := hM.le
    obtain ⟨F, rfl⟩ : ∃ F9, F = F9 + 1 := ⟨F - 1, by omega⟩
    have hvv := hM.hv
    have hgo := goP_ok hok h0 h1 hM.hv
    simp only [push_cast, ↓brB_true, ↓brB_false, ↓reduceIte, zA, zB, zC, zD, zE, zF, zG, zH, zI, reduceCtorEq]
    refine awp_seq' fun K3 hK3 => ?_
    refine awp_seq' fun K hK => ?_
    refine awp_region tyOk tyPos [] rfl ?_
    all_goals refine aops_cut 3 fun K9 hK9 => ?_
    all_goals simp only [push_cast, ↓brB_true, ↓brB_false, ↓reduceIte, zA, zB, zC, zD, zE, zF, zG, zH, zI, reduceCtorEq]
    all_goals repeat' (first | (apply brB_mk <;> (intro hg; (try simp only [push_cast] at hg))) | (refine ⟨_, l1Has_fn met v (by omega), ?_⟩; simp only [push_cast, ↓brB_true, ↓brB_false, ↓reduceIte, zA, zB, zC, zD, zE, zF, zG, zH, zI, reduceCtorEq]) | apply And.intro | (intro hg; (try simp only [push_cast] at hg)))
    all_goals try exact gA
    all_goals first | (refine hK9 _ ?_; clear hK9 K9) | (simp only [push_cast]; done)
    all_goals simp only [push_cast, ↓brB_true, ↓brB_false, ↓reduceIte, zA, zB, zC, zD, zE, zF, zG, zH, zI, reduceCtorEq]
    all_goals repeat' (first | (apply brB_mk <;> (intro hg; (try simp only [push_cast] at hg))) | (refine ⟨_, l1Has_fn met v (by omega), ?_⟩; simp only [push_cast, ↓brB_true, ↓brB_false, ↓reduceIte, zA, zB, zC, zD, zE, zF, zG, zH, zI, reduceCtorEq]) | apply And.intro | (intro hg; (try simp only [push_cast] at hg)))
    all_goals try exact gA
    all_goals first | (refine hK _ ?_; clear hK K) | (simp only [push_cast]; done)
    refine awp_cond rfl (fun hc => ?_) (fun hc => ?_) <;> (try simp only [push_cast] at hc)
    ·
      refine awp_skip ?_
      (try simp only [AThen, ABlk, reduceIte, zF]); refine hK3 _ ?_
      refine awp_block ?_
      have hbf : hasB met v = false := by cases hb9 : hasB met v <;> simp_all
      refine awp_seq' fun K hK => ?_
      refine awp_region tyOk tyPos [] rfl ?_
      simp only [push_cast, ↓brB_true, ↓brB_false, ↓reduceIte, zA, zB, zC, zD, zE, zF, zG, zH, zI, reduceCtorEq]
      repeat' apply And.intro
      all_goals try exact gB
      all_goals first | (refine hK _ ?_; clear hK K) | (simp only [push_cast]; done)
      refine awp_seq' fun K hK => ?_
      refine awp_region tyOk tyPos [] rfl ?_
      simp only [push_cast, ↓brB_true, ↓brB_false, ↓reduceIte, zA, zB, zC, zD, zE, zF, zG, zH, zI, reduceCtorEq]
      repeat' apply And.intro
      all_goals try exact gB
      all_goals first | (refine hK _ ?_; clear hK K) | (simp only [push_cast]; done)
      refine awp_cond rfl (fun hc => ?_) (fun hc => ?_) <;> (try simp only [push_cast] at hc)
      ·
        refine awp_region tyOk tyPos [] rfl ?_
        simp only [push_cast, ↓brB_true, ↓brB_false, ↓reduceIte, zA, zB, zC, zD, zE, zF, zG, zH, zI, reduceCtorEq]
        repeat' apply And.intro
        all_goals try exact gB
        refine hL0 _ ⟨(met ++ [v], goP a even odd v, F), ⟨hM.next hbf hgo.2, (runP_go hbf).symm.trans hrun, by simp only [List.length_append, List.length_cons, List.length_nil]; omega⟩, by dsimp only; omega, ?_⟩
        rw [show goP a even odd v = gi even v.toNat from if_pos (by omega)]
        (try rw [List.take_of_length_le (l := met) (by omega)])
        simp only [List.length_append, List.length_cons, List.length_nil, Nat.zero_add]
        refine cov_of rfl ?_ ?_ ?_ <;> simp only [covS, covL, push_cast, ↓brB_true, ↓brB_false, ↓reduceIte, zA, zB, zC, zD, zE, zF, zG, zH, zI, reduceCtorEq]
      ·
        refine awp_region tyOk tyPos [] rfl ?_
        simp only [push_cast, ↓brB_true, ↓brB_false, ↓reduceIte, zA, zB, zC, zD, zE, zF, zG, zH, zI, reduceCtorEq]
        repeat' apply And.intro
        all_goals try exact gB
        refine hL0 _ ⟨(met ++ [v], goP a even odd v, F), ⟨hM.next hbf hgo.2, (runP_go hbf).symm.trans hrun, by simp only [List.length_append, List.length_cons, List.length_nil]; omega⟩, by dsimp only; omega, ?_⟩
        rw [show goP a even odd v = gi odd v.toNat from if_neg (by omega)]
        (try rw [List.take_of_length_le (l := met) (by omega)])
        simp only [List.length_append, List.length_cons, List.length_nil, Nat.zero_add]
        refine cov_of rfl ?_ ?_ ?_ <;> simp only [covS, covL, push_cast, ↓brB_true, ↓brB_false, ↓reduceIte, zA, zB, zC, zD, zE, zF, zG, zH, zI, reduceCtorEq]
    ·
      refine awp_exit ?_
      (try simp only [AThen, ABlk, reduceIte, zF]); refine hK2 _ ?_
      have hbt : hasB met v = true := by cases hb9 : hasB met v <;> simp_all
      have hfx := of_decide_eq_true hbt
      have hix : ixB met v = (fidx met v : Int) := by unfold ixB; rw [if_pos hfx]
      have hPl := l1Place_fn met v (by omega)
      rw [hix] at hPl
      have hdt : List.take (met.length - fidx met v) (List.drop (fidx met v) met) = met.drop (fidx met v) := List.take_of_length_le (by rw [List.length_drop]; omega)
      have hcd : Fn Try.prog tyT 86 [.c (DI (List.take (met.length - fidx met v) (List.drop (fidx met v) met)))] [.c (DI (met.drop (fidx met v)))] := by rw [hdt]; exact l1Copy_fn (met.drop (fidx met v)) (by rw [List.length_drop]; omega)
      refine awp_seq' fun K hK => ?_
      refine awp_region tyOk tyPos [] rfl ?_
      all_goals refine aops_cut 3 fun K9 hK9 => ?_
      all_goals simp only [push_cast, ↓brB_true, ↓brB_false, ↓reduceIte, zA, zB, zC, zD, zE, zF, zG, zH, zI, reduceCtorEq]
      all_goals repeat' (first | (apply brB_mk <;> (intro hg; (try simp only [push_cast] at hg))) | (refine ⟨_, hPl, ?_⟩; simp only [push_cast, ↓brB_true, ↓brB_false, ↓reduceIte, zA, zB, zC, zD, zE, zF, zG, zH, zI, reduceCtorEq]) | apply And.intro | (intro hg; (try simp only [push_cast] at hg)))
      all_goals try exact gA
      all_goals first | (refine hK9 _ ?_; clear hK9 K9) | (simp only [push_cast]; done)
      all_goals simp only [push_cast, ↓brB_true, ↓brB_false, ↓reduceIte, zA, zB, zC, zD, zE, zF, zG, zH, zI, reduceCtorEq]
      all_goals repeat' (first | (apply brB_mk <;> (intro hg; (try simp only [push_cast] at hg))) | (refine ⟨_, hPl, ?_⟩; simp only [push_cast, ↓brB_true, ↓brB_false, ↓reduceIte, zA, zB, zC, zD, zE, zF, zG, zH, zI, reduceCtorEq]) | apply And.intro | (intro hg; (try simp only [push_cast] at hg)))
      all_goals try exact gA
      all_goals first | (refine hK _ ?_; clear hK K) | (simp only [push_cast]; done)
      refine awp_seq' fun K hK => ?_
      refine awp_regionD1 false tyOk tyPos tyMix ?_ rfl ?_
      · kernel_rfl
      intro E hE
      all_goals refine lexF_cut 4 (by decide) fun K9 hK9 => ?_
      all_goals simp only [push_cast, ↓brB_true, ↓brB_false, ↓reduceIte, zA, zB, zC, zD, zE, zF, zG, zH, zI, reduceCtorEq]
      all_goals repeat' (first | (apply brB_mk <;> (intro hg; (try simp only [push_cast] at hg))) | (refine ⟨_, l1Copy_fn (met.take (fidx met v)) (by rw [List.length_take]; omega), ?_⟩; simp only [push_cast, ↓brB_true, ↓brB_false, ↓reduceIte, zA, zB, zC, zD, zE, zF, zG, zH, zI, reduceCtorEq]) | (refine ⟨_, hcd, ?_⟩; simp only [push_cast, ↓brB_true, ↓brB_false, ↓reduceIte, zA, zB, zC, zD, zE, zF, zG, zH, zI, reduceCtorEq]) | apply And.intro | (intro hg; (try simp only [push_cast] at hg)))
      all_goals try exact gA
      all_goals first | (refine hK9 _ _ ?_; clear hK9 K9) | (simp only [push_cast]; done)
      all_goals refine lexF_cut 4 (by decide) fun K9 hK9 => ?_
      all_goals simp only [push_cast, ↓brB_true, ↓brB_false, ↓reduceIte, zA, zB, zC, zD, zE, zF, zG, zH, zI, reduceCtorEq]
      all_goals repeat' (first | (apply brB_mk <;> (intro hg; (try simp only [push_cast] at hg))) | (refine ⟨_, l1Copy_fn (met.take (fidx met v)) (by rw [List.length_take]; omega), ?_⟩; simp only [push_cast, ↓brB_true, ↓brB_false, ↓reduceIte, zA, zB, zC, zD, zE, zF, zG, zH, zI, reduceCtorEq]) | (refine ⟨_, hcd, ?_⟩; simp only [push_cast, ↓brB_true, ↓brB_false, ↓reduceIte, zA, zB, zC, zD, zE, zF, zG, zH, zI, reduceCtorEq]) | apply And.intro | (intro hg; (try simp only [push_cast] at hg)))
      all_goals try exact gA
      all_goals first | (refine hK9 _ _ ?_; clear hK9 K9) | (simp only [push_cast]; done)
      all_goals simp only [push_cast, ↓brB_true, ↓brB_false, ↓reduceIte, zA, zB, zC, zD, zE, zF, zG, zH, zI, reduceCtorEq]
      all_goals repeat' (first | (apply brB_mk <;> (intro hg; (try simp only [push_cast] at hg))) | (refine ⟨_, l1Copy_fn (met.take (fidx met v)) (by rw [List.length_take]; omega), ?_⟩; simp only [push_cast, ↓brB_true, ↓brB_false, ↓reduceIte, zA, zB, zC, zD, zE, zF, zG, zH, zI, reduceCtorEq]) | (refine ⟨_, hcd, ?_⟩; simp only [push_cast, ↓brB_true, ↓brB_false, ↓reduceIte, zA, zB, zC, zD, zE, zF, zG, zH, zI, reduceCtorEq]) | apply And.intro | (intro hg; (try simp only [push_cast] at hg)))
      all_goals first | exact gA | (refine hE _ _ ?_ ?_; kernel_rfl) | skip
      all_goals clear hE E
      all_goals first | (refine hK _ ?_; clear hK K) | (simp only [push_cast]; done)
      refine awp_ret ?_
      (try simp only [AThen, ABlk])
      refine ⟨Or.inl rfl, ?_⟩
      simp only [RetOk, resVars, resVar, push_cast, ↓brB_true, ↓brB_false, ↓reduceIte, zA, zB, zC, zD, zE, zF, zG, zH, zI, reduceCtorEq]
      have h9 : R = ⟨met.take (fidx met v), met.drop (fidx met v)⟩ := hrun.symm.trans (runP_hit hbt)
      rw [h9]
      all_goals first | rfl | (simp [dI]; done) | (simp [dI]; omega)
set_option maxRecDepth 20000 in
set_option maxHeartbeats 4000000 in
theorem w6Full_fn (a : Ar) (ha : a.Ln 1048576) (hok : arenaB a = true) (who : Int) (plan : List Int) (hp : plan.length ≤ 1048576) : Fn Try.prog tyT 34 [.agg (dAr a), .c (.int .i64 who), .c (DI plan)] [.c (DI (fullL a who plan a.owner.length))] := by
  have hal := arenaB_len hok
  have hno := ha.owner
  unfold LnI at hno
  unfold dAr
  refine Fn_of (fn := Try.f34) (ts := [6]) Try.func34 (by kernel_rfl) rfl rfl (by rw [Try.ntmps34]; exact Nat.le_of_ble_eq_true rfl) rfl (by simp only [szA, List.mem_cons, List.not_mem_nil, or_false, forall_eq_or_imp, forall_eq, VT.cells, szL]; try decide) ?_
  rw [Try.ntmps34]
  simp only [push_cast, ↓brB_true, ↓brB_false, ↓reduceIte, zA, zB, zC, zD, zE, zF, zG, zH, zI, reduceCtorEq]
  refine awp_seq' fun K hK => ?_
  refine awp_region tyOk tyPos [] rfl ?_
  simp only [push_cast, ↓brB_true, ↓brB_false, ↓reduceIte, zA, zB, zC, zD, zE, zF, zG, zH, zI, reduceCtorEq]
  repeat' apply And.intro
  all_goals try exact gB
  all_goals first | (refine hK _ ?_; clear hK K) | (simp only [push_cast]; done)
  refine awp_seq' fun K hK => ?_
  refine awp_region tyOk tyPos [] rfl ?_
  simp only [push_cast, ↓brB_true, ↓brB_false, ↓reduceIte, zA, zB, zC, zD, zE, zF, zG, zH, zI, reduceCtorEq]
  repeat' apply And.intro
  all_goals try exact gB
  all_goals first | (refine hK _ ?_; clear hK K) | (simp only [push_cast]; done)
  refine awp_seq' fun K1 hK1 => ?_
  refine awp_seq' fun K hK => ?_
  refine awp_region tyOk tyPos [] rfl ?_
  simp only [push_cast, ↓brB_true, ↓brB_false, ↓reduceIte, zA, zB, zC, zD, zE, zF, zG, zH, zI, reduceCtorEq]
  repeat' apply And.intro
  all_goals try exact gB
  all_goals first | (refine hK _ ?_; clear hK K) | (simp only [push_cast]; done)
  refine awp_block ?_
  refine awp_loopU [7,8,9,11,12,13,14,15,16,17,18,19,20,21,22,23,24,25,26,27,28,29,30,31,32,33,34,35,36,37,38,39,40,41,42,43,44,45,46,47,48,49,50] [112] (fun (v : Nat) => [(8, .int .i64 v), (7, .sl 112 [] 0 v 2)]) (fun v => []) (fun v => [(112, ⟨.ex, 2, dI (fullL a who plan v), none⟩)]) (fun v => v ≤ a.owner.length) (fun v => a.owner.length - v) 0 ?_ (by omega) ?_
  ·
    rw [show dI (fullL a who plan 0) = [] from rfl]
    refine cov_of rfl ?_ ?_ ?_ <;> simp only [covS, covL, push_cast, ↓brB_true, ↓brB_false, ↓reduceIte, zA, zB, zC, zD, zE, zF, zG, zH, zI, reduceCtorEq]
  · rintro v hv KL0 hL0
    have hfl := fullL_len a who plan v
    have hrw : v < a.owner.length → 1 ≤ (gl a.next v).length := fun h9 => (arenaB_at hok h9).2.2.1
    simp only [push_cast, ↓brB_true, ↓brB_false, ↓reduceIte, zA, zB, zC, zD, zE, zF, zG, zH, zI, reduceCtorEq]
    refine awp_seq' fun K2 hK2 => ?_
    refine awp_seq' fun K hK => ?_
    refine awp_region tyOk tyPos [] rfl ?_
    simp only [push_cast, ↓brB_true, ↓brB_false, ↓reduceIte, zA, zB, zC, zD, zE, zF, zG, zH, zI, reduceCtorEq]
    repeat' apply And.intro
    all_goals try exact gB
    all_goals first | (refine hK _ ?_; clear hK K) | (simp only [push_cast]; done)
    refine awp_cond rfl (fun hc => ?_) (fun hc => ?_) <;> (try simp only [push_cast] at hc)
    ·
      refine awp_skip ?_
      (try simp only [AThen, ABlk, reduceIte, zF]); refine hK2 _ ?_
      refine awp_seq' fun K3 hK3 => ?_
      refine awp_block ?_
      refine awp_seq' fun K hK => ?_
      refine awp_region tyOk tyPos [] rfl ?_
      simp only [push_cast, ↓brB_true, ↓brB_false, ↓reduceIte, zA, zB, zC, zD, zE, zF, zG, zH, zI, reduceCtorEq]
      repeat' apply And.intro
      all_goals try exact gB
      all_goals first | (refine hK _ ?_; clear hK K) | (simp only [push_cast]; done)
      refine awp_joinU [9,18,19,20,21,22,23,24,25,26,27,28,29,30,31,32,33,34,35,36,37,38,39,40,41,42,43,44,45,46] [] (fun (u9 : Unit) => [(9, .int .i64 (fullAt a who plan v))]) (fun u9 => []) (fun u9 => []) (fun u9 => True) ?_ ?_
      ·
        intro K4 hK4
        refine awp_seq' fun K hK => ?_
        refine awp_region tyOk tyPos [] rfl ?_
        simp only [push_cast, ↓brB_true, ↓brB_false, ↓reduceIte, zA, zB, zC, zD, zE, zF, zG, zH, zI, reduceCtorEq]
        repeat' apply And.intro
        all_goals try exact gB
        all_goals first | (refine hK _ ?_; clear hK K) | (simp only [push_cast]; done)
        refine awp_cond rfl (fun hc => ?_) (fun hc => ?_) <;> (try simp only [push_cast] at hc)
        ·
          refine awp_seq' fun K hK => ?_
          refine awp_region tyOk tyPos [] rfl ?_
          simp only [push_cast, ↓brB_true, ↓brB_false, ↓reduceIte, zA, zB, zC, zD, zE, zF, zG, zH, zI, reduceCtorEq]
          repeat' apply And.intro
          all_goals try exact gB
          all_goals first | (refine hK _ ?_; clear hK K) | (simp only [push_cast]; done)
          refine awp_seq' fun K hK => ?_
          refine awp_regionN false tyOk tyPos ?_ rfl ?_
          · kernel_rfl
          all_goals simp only [push_cast, ↓brB_true, ↓brB_false, ↓reduceIte, zA, zB, zC, zD, zE, zF, zG, zH, zI, reduceCtorEq]
          all_goals repeat' (first | (apply brB_mk <;> (intro hg; (try simp only [push_cast] at hg))) | apply And.intro | (intro hg; (try simp only [push_cast] at hg)))
          all_goals try exact gA
          all_goals first | (refine hK _ ?_; clear hK K) | (simp only [push_cast]; done)
          all_goals refine awp_cond rfl (fun hc => ?_) (fun hc => ?_)
          all_goals (first | (cases hc; done) | skip)
          all_goals (try simp only [push_cast] at hc)
          all_goals first
            | (
                refine awp_skip ?_
                (try simp only [AThen, ABlk, reduceIte, zF])
                refine hK4 _ ⟨(), trivial, ?_⟩
                refine cov_of rfl ?_ ?_ ?_ <;> simp only [covS, covL, push_cast, ↓brB_true, ↓brB_false, ↓reduceIte, zA, zB, zC, zD, zE, zF, zG, zH, zI, reduceCtorEq]
                all_goals (refine congrArg (AV.int .i64) ?_; first | (rw [fullAt_no (by omega)]; done) | (rw [fullAt_plan (by omega) ⟨by omega, by omega⟩]; done) | (rw [fullAt_least (by omega) (by omega)]; done) | (symm; first | exact fullAt_no (by omega) | exact fullAt_plan (by omega) ⟨by omega, by omega⟩ | exact fullAt_least (by omega) (by omega)))
                done)
            | (
                refine awp_region tyOk tyPos [] rfl ?_
                simp only [push_cast, ↓brB_true, ↓brB_false, ↓reduceIte, zA, zB, zC, zD, zE, zF, zG, zH, zI, reduceCtorEq]
                repeat' apply And.intro
                all_goals try exact gB
                (try simp only [AThen, ABlk, reduceIte, zF])
                refine hK4 _ ⟨(), trivial, ?_⟩
                refine cov_of rfl ?_ ?_ ?_ <;> simp only [covS, covL, push_cast, ↓brB_true, ↓brB_false, ↓reduceIte, zA, zB, zC, zD, zE, zF, zG, zH, zI, reduceCtorEq]
                all_goals (refine congrArg (AV.int .i64) ?_; first | (rw [fullAt_no (by omega)]; done) | (rw [fullAt_plan (by omega) ⟨by omega, by omega⟩]; done) | (rw [fullAt_least (by omega) (by omega)]; done) | (symm; first | exact fullAt_no (by omega) | exact fullAt_plan (by omega) ⟨by omega, by omega⟩ | exact fullAt_least (by omega) (by omega)))
                done)
        ·
          refine awp_skip ?_
          (try simp only [AThen, ABlk, reduceIte, zF])
          refine hK4 _ ⟨(), trivial, ?_⟩
          refine cov_of rfl ?_ ?_ ?_ <;> simp only [covS, covL, push_cast, ↓brB_true, ↓brB_false, ↓reduceIte, zA, zB, zC, zD, zE, zF, zG, zH, zI, reduceCtorEq]
          all_goals (refine congrArg (AV.int .i64) ?_; first | (rw [fullAt_no (by omega)]; done) | (rw [fullAt_plan (by omega) ⟨by omega, by omega⟩]; done) | (rw [fullAt_least (by omega) (by omega)]; done) | (symm; first | exact fullAt_no (by omega) | exact fullAt_plan (by omega) ⟨by omega, by omega⟩ | exact fullAt_least (by omega) (by omega)))
      ·
        rintro u9 hj4
        simp only [push_cast, ↓brB_true, ↓brB_false, ↓reduceIte, zA, zB, zC, zD, zE, zF, zG, zH, zI, reduceCtorEq]
        refine awp_region tyOk tyPos [] rfl ?_
        simp only [push_cast, ↓brB_true, ↓brB_false, ↓reduceIte, zA, zB, zC, zD, zE, zF, zG, zH, zI, reduceCtorEq]
        repeat' apply And.intro
        all_goals try exact gB
        (try simp only [AThen, ABlk, reduceIte, zF]); refine hK3 _ ?_
        refine awp_region tyOk tyPos [] rfl ?_
        simp only [push_cast, ↓brB_true, ↓brB_false, ↓reduceIte, zA, zB, zC, zD, zE, zF, zG, zH, zI, reduceCtorEq]
        repeat' apply And.intro
        all_goals try exact gB
        refine hL0 _ ⟨v + 1, by omega, by omega, ?_⟩
        (try rw [List.take_of_length_le (l := fullL a who plan v) (by omega)])
        rw [fullL_s]
        refine cov_of rfl ?_ ?_ ?_ <;> simp only [covS, covL, push_cast, ↓brB_true, ↓brB_false, ↓reduceIte, zA, zB, zC, zD, zE, zF, zG, zH, zI, reduceCtorEq]
    ·
      refine awp_exit ?_
      have hkk : v = a.owner.length := by omega
      subst hkk
      (try simp only [AThen, ABlk, reduceIte, zF]); refine hK1 _ ?_
      refine awp_seq' fun K hK => ?_
      refine awp_region tyOk tyPos [] rfl ?_
      simp only [push_cast, ↓brB_true, ↓brB_false, ↓reduceIte, zA, zB, zC, zD, zE, zF, zG, zH, zI, reduceCtorEq]
      repeat' apply And.intro
      all_goals try exact gB
      all_goals first | (refine hK _ ?_; clear hK K) | (simp only [push_cast]; done)
      refine awp_ret ?_
      (try simp only [AThen, ABlk])
      refine ⟨Or.inl rfl, ?_⟩
      simp only [RetOk, push_cast, ↓brB_true, ↓brB_false, ↓reduceIte, zA, zB, zC, zD, zE, zF, zG, zH, zI, reduceCtorEq]
      exact hfl.symm
end Go.Proofs.Ytdbecmmeifdafaa

namespace Go.Proofs.Ytdbecmmeifdafaa
open Nat renaming reduceMod → zA, reduceMul → zB, reduceDiv → zC, reduceAdd → zD, reduceSub → zE, reduceEqDiff → zF, reduceBEq → zG, reduceLT → zH, reduceLeDiff → zI
open Go.RowKit
set_option linter.unusedVariables false
set_option linter.unusedSimpArgs false

attribute [-push_cast] rm
def pJ (a : Ar) (who : Int) (j : Nat) : Nat → Nat
  | 0 => j
  | v + 1 => if gi a.owner v = who then pJ a who j v + 1 else pJ a who j v
def pL (code : List Int) (seed : Int) (a : Ar) (who : Int) (j : Nat) : Nat → List Int
  | 0 => []
  | v + 1 => pL code seed a who j v ++ [if gi a.owner v = who then gi (gl a.next v) (dv code seed (pJ a who j v) (gl a.next v).length).toNat else -1]
theorem pL_len (code : List Int) (seed : Int) (a : Ar) (who : Int) (j : Nat) : ∀ v, (pL code seed a who j v).length = v
  | 0 => rfl
  | v + 1 => by simp [pL, pL_len code seed a who j v]
theorem pJ_yes {a : Ar} {who : Int} {j v : Nat} (h : gi a.owner v = who) : pJ a who j (v + 1) = pJ a who j v + 1 := if_pos h
theorem pJ_no {a : Ar} {who : Int} {j v : Nat} (h : ¬ gi a.owner v = who) : pJ a who j (v + 1) = pJ a who j v := if_neg h
theorem pL_yes {code : List Int} {seed : Int} {a : Ar} {who : Int} {j v : Nat} (h : gi a.owner v = who) : pL code seed a who j (v + 1) = pL code seed a who j v ++ [gi (gl a.next v) (dv code seed (pJ a who j v) (gl a.next v).length).toNat] := by show _ ++ [if _ then _ else _] = _; rw [if_pos h]
theorem pL_no {code : List Int} {seed : Int} {a : Ar} {who : Int} {j v : Nat} (h : ¬ gi a.owner v = who) : pL code seed a who j (v + 1) = pL code seed a who j v ++ [-1] := by show _ ++ [if _ then _ else _] = _; rw [if_neg h]
set_option maxRecDepth 20000 in
set_option maxHeartbeats 4000000 in
theorem w6Plan_fn (code : List Int) (hby : BytesOk code) (seed : Int) (j : Nat) (a : Ar) (ha : arenaB a = true) (who : Int) : FnB Try.prog tyT 15 (dSt code seed j) [.agg (dAr a), .c (.int .i64 who)] (dSt code seed (pJ a who j a.owner.length)) [.c (DI (pL code seed a who j a.owner.length))] := by
  have hcl := hby.1
  have hln := arenaB_len ha
  have hrv := fun v hv => (arenaB_at ha (v := v) hv).2.2
  unfold dAr
  refine FnB_of (fn := Try.f15) (rs := [.tmp 6]) tyOk tyPos Try.func15 (by kernel_rfl) rfl rfl (by rw [Try.ntmps15]; exact Nat.le_of_ble_eq_true rfl) rfl (by simp only [szA, List.mem_cons, List.not_mem_nil, or_false, forall_eq_or_imp, forall_eq, VT.cells, szL]; try decide) (Nat.le_of_ble_eq_true rfl) (by simp only [szL]; decide) (Nat.le_of_ble_eq_true rfl) rfl ?_
  rw [Try.ntmps15]
  simp only [push_cast, ↓brB_true, ↓brB_false, ↓reduceIte, zA, zB, zC, zD, zE, zF, zG, zH, zI, reduceCtorEq]
  refine awp_seq' fun K hK => ?_
  refine awp_region tyOk tyPos [] rfl ?_
  all_goals simp only [push_cast, ↓brB_true, ↓brB_false, ↓reduceIte, zA, zB, zC, zD, zE, zF, zG, zH, zI, reduceCtorEq]
  all_goals repeat' (first | (apply brB_mk <;> (intro hg; (try simp only [push_cast] at hg))) | apply And.intro | (intro hg; (try simp only [push_cast] at hg)))
  all_goals first | exact gA | (exact getE_dII (by omega)) | skip
  all_goals first | (refine hK _ ?_; clear hK K) | (simp only [push_cast]; done)
  refine awp_seq' fun K hK => ?_
  refine awp_region tyOk tyPos [] rfl ?_
  all_goals simp only [push_cast, ↓brB_true, ↓brB_false, ↓reduceIte, zA, zB, zC, zD, zE, zF, zG, zH, zI, reduceCtorEq]
  all_goals repeat' (first | (apply brB_mk <;> (intro hg; (try simp only [push_cast] at hg))) | apply And.intro | (intro hg; (try simp only [push_cast] at hg)))
  all_goals first | exact gA | (exact getE_dII (by omega)) | skip
  all_goals first | (refine hK _ ?_; clear hK K) | (simp only [push_cast]; done)
  refine awp_seq' fun K1 hK1 => ?_
  refine awp_seq' fun K hK => ?_
  refine awp_region tyOk tyPos [] rfl ?_
  all_goals simp only [push_cast, ↓brB_true, ↓brB_false, ↓reduceIte, zA, zB, zC, zD, zE, zF, zG, zH, zI, reduceCtorEq]
  all_goals repeat' (first | (apply brB_mk <;> (intro hg; (try simp only [push_cast] at hg))) | apply And.intro | (intro hg; (try simp only [push_cast] at hg)))
  all_goals first | exact gA | (exact getE_dII (by omega)) | skip
  all_goals first | (refine hK _ ?_; clear hK K) | (simp only [push_cast]; done)
  refine awp_block ?_
  refine awp_loopU [7,8,9,11,12,13,14,15,16,17,18,19,20,21,22,23,24,25,26,27,28,29,30,31,32,33,34,35,36,37,38,39,40,41,42,43,1000000] [112] (fun (v : Nat) => [(8, .int .i64 v), (7, .sl 112 [] 0 v 2)]) (fun v => [(1000000, [.sl 16000000 [] 0 code.length 5, .int .i64 (nI code (pJ a who j v)), .int .u64 (nH code seed (pJ a who j v))])]) (fun v => [(112, ⟨.ex, 2, dI (pL code seed a who j v), none⟩), (16000000, ⟨.sh, 5, dU code, some 16000000⟩)]) (fun v => v ≤ a.owner.length) (fun v => a.owner.length - v) 0 ?_ (by omega) ?_
  ·
    rw [show pL code seed a who j 0 = [] from rfl, show dI [] = [] from rfl, show pJ a who j 0 = j from rfl]
    refine cov_of rfl ?_ ?_ ?_ <;> simp only [covS, covL, push_cast, ↓brB_true, ↓brB_false, ↓reduceIte, zA, zB, zC, zD, zE, zF, zG, zH, zI, reduceCtorEq]
  · rintro v hv KL0 hL0
    have hpl := pL_len code seed a who j v
    simp only [push_cast, ↓brB_true, ↓brB_false, ↓reduceIte, zA, zB, zC, zD, zE, zF, zG, zH, zI, reduceCtorEq]
    refine awp_seq' fun K2 hK2 => ?_
    refine awp_seq' fun K hK => ?_
    refine awp_region tyOk tyPos [] rfl ?_
    all_goals simp only [push_cast, ↓brB_true, ↓brB_false, ↓reduceIte, zA, zB, zC, zD, zE, zF, zG, zH, zI, reduceCtorEq]
    all_goals repeat' (first | (apply brB_mk <;> (intro hg; (try simp only [push_cast] at hg))) | apply And.intro | (intro hg; (try simp only [push_cast] at hg)))
    all_goals first | exact gA | (exact getE_dII (by omega)) | skip
    all_goals first | (refine hK _ ?_; clear hK K) | (simp only [push_cast]; done)
    refine awp_cond rfl (fun hc => ?_) (fun hc => ?_) <;> (try simp only [push_cast] at hc)
    ·
      refine awp_skip ?_
      (try simp only [AThen, ABlk, reduceIte, zF]); refine hK2 _ ?_
      refine awp_seq' fun K3 hK3 => ?_
      refine awp_block ?_
      have hr1 := hrv v (by omega)
      have hD := draw_fn hby seed (pJ a who j v) ((gl a.next v).length : Nat) (by omega)
      have hr2 := dv_rg hby seed (pJ a who j v) (n := ((gl a.next v).length : Nat)) (by omega)
      refine awp_seq' fun K hK => ?_
      refine awp_region tyOk tyPos [] rfl ?_
      all_goals simp only [push_cast, ↓brB_true, ↓brB_false, ↓reduceIte, zA, zB, zC, zD, zE, zF, zG, zH, zI, reduceCtorEq]
      all_goals repeat' (first | (apply brB_mk <;> (intro hg; (try simp only [push_cast] at hg))) | apply And.intro | (intro hg; (try simp only [push_cast] at hg)))
      all_goals first | exact gA | (exact getE_dII (by omega)) | skip
      all_goals first | (refine hK _ ?_; clear hK K) | (simp only [push_cast]; done)
      refine awp_seq' fun K4 hK4 => ?_
      refine awp_seq' fun K hK => ?_
      refine awp_region tyOk tyPos [] rfl ?_
      all_goals simp only [push_cast, ↓brB_true, ↓brB_false, ↓reduceIte, zA, zB, zC, zD, zE, zF, zG, zH, zI, reduceCtorEq]
      all_goals repeat' (first | (apply brB_mk <;> (intro hg; (try simp only [push_cast] at hg))) | apply And.intro | (intro hg; (try simp only [push_cast] at hg)))
      all_goals first | exact gA | (exact getE_dII (by omega)) | skip
      all_goals first | (refine hK _ ?_; clear hK K) | (simp only [push_cast]; done)
      refine awp_cond rfl (fun hc => ?_) (fun hc => ?_) <;> (try simp only [push_cast] at hc)
      ·
        refine awp_regionD1 false tyOk tyPos tyMix ?_ rfl ?_
        · kernel_rfl
        intro E hE
        all_goals refine lexF_cut 13 (by decide) fun K9 hK9 => ?_
        all_goals simp only [push_cast, ↓brB_true, ↓brB_false, ↓reduceIte, zA, zB, zC, zD, zE, zF, zG, zH, zI, reduceCtorEq]
        all_goals repeat' (first | (apply brB_mk <;> (intro hg; (try simp only [push_cast] at hg))) | (refine ⟨_, _, hD, ?_⟩; simp only [push_cast, ↓brB_true, ↓brB_false, ↓reduceIte, zA, zB, zC, zD, zE, zF, zG, zH, zI, reduceCtorEq]) | apply And.intro | (intro hg; (try simp only [push_cast] at hg)))
        all_goals first | exact gA | (exact getE_dII (by omega)) | skip
        all_goals first | (refine hK9 _ _ ?_; clear hK9 K9) | (simp only [push_cast]; done)
        all_goals simp only [push_cast, ↓brB_true, ↓brB_false, ↓reduceIte, zA, zB, zC, zD, zE, zF, zG, zH, zI, reduceCtorEq]
        all_goals repeat' (first | (apply brB_mk <;> (intro hg; (try simp only [push_cast] at hg))) | (refine ⟨_, _, hD, ?_⟩; simp only [push_cast, ↓brB_true, ↓brB_false, ↓reduceIte, zA, zB, zC, zD, zE, zF, zG, zH, zI, reduceCtorEq]) | apply And.intro | (intro hg; (try simp only [push_cast] at hg)))
        all_goals first | exact gA | (refine hE _ _ ?_ ?_; kernel_rfl) | (exact getE_dII (by omega)) | skip
        all_goals clear hE E
        (try simp only [AThen, ABlk, reduceIte, zF]); refine hK4 _ ?_
        refine awp_region tyOk tyPos [] rfl ?_
        all_goals simp only [push_cast, ↓brB_true, ↓brB_false, ↓reduceIte, zA, zB, zC, zD, zE, zF, zG, zH, zI, reduceCtorEq]
        all_goals repeat' (first | (apply brB_mk <;> (intro hg; (try simp only [push_cast] at hg))) | apply And.intro | (intro hg; (try simp only [push_cast] at hg)))
        all_goals first | exact gA | (exact getE_dII (by omega)) | skip
        (try simp only [AThen, ABlk, reduceIte, zF]); refine hK3 _ ?_
        refine awp_region tyOk tyPos [] rfl ?_
        all_goals simp only [push_cast, ↓brB_true, ↓brB_false, ↓reduceIte, zA, zB, zC, zD, zE, zF, zG, zH, zI, reduceCtorEq]
        all_goals repeat' (first | (apply brB_mk <;> (intro hg; (try simp only [push_cast] at hg))) | apply And.intro | (intro hg; (try simp only [push_cast] at hg)))
        all_goals first | exact gA | (exact getE_dII (by omega)) | skip
        refine hL0 _ ⟨v + 1, by omega, by omega, ?_⟩
        (try rw [List.take_of_length_le (l := pL code seed a who j v) (by omega)])
        rw [pL_yes hc, pJ_yes hc]
        refine cov_of rfl ?_ ?_ ?_ <;> simp only [covS, covL, push_cast, ↓brB_true, ↓brB_false, ↓reduceIte, zA, zB, zC, zD, zE, zF, zG, zH, zI, reduceCtorEq]
        all_goals first | exact rfl | exact ⟨rfl, rfl⟩ | skip
      ·
        refine awp_skip ?_
        (try simp only [AThen, ABlk, reduceIte, zF]); refine hK4 _ ?_
        refine awp_region tyOk tyPos [] rfl ?_
        all_goals simp only [push_cast, ↓brB_true, ↓brB_false, ↓reduceIte, zA, zB, zC, zD, zE, zF, zG, zH, zI, reduceCtorEq]
        all_goals repeat' (first | (apply brB_mk <;> (intro hg; (try simp only [push_cast] at hg))) | apply And.intro | (intro hg; (try simp only [push_cast] at hg)))
        all_goals first | exact gA | (exact getE_dII (by omega)) | skip
        (try simp only [AThen, ABlk, reduceIte, zF]); refine hK3 _ ?_
        refine awp_region tyOk tyPos [] rfl ?_
        all_goals simp only [push_cast, ↓brB_true, ↓brB_false, ↓reduceIte, zA, zB, zC, zD, zE, zF, zG, zH, zI, reduceCtorEq]
        all_goals repeat' (first | (apply brB_mk <;> (intro hg; (try simp only [push_cast] at hg))) | apply And.intro | (intro hg; (try simp only [push_cast] at hg)))
        all_goals first | exact gA | (exact getE_dII (by omega)) | skip
        refine hL0 _ ⟨v + 1, by omega, by omega, ?_⟩
        (try rw [List.take_of_length_le (l := pL code seed a who j v) (by omega)])
        rw [pL_no hc, pJ_no hc]
        refine cov_of rfl ?_ ?_ ?_ <;> simp only [covS, covL, push_cast, ↓brB_true, ↓brB_false, ↓reduceIte, zA, zB, zC, zD, zE, zF, zG, zH, zI, reduceCtorEq]
        all_goals first | exact rfl | exact ⟨rfl, rfl⟩ | skip
    ·
      refine awp_exit ?_
      have hvv : v = a.owner.length := by omega
      subst hvv
      (try simp only [AThen, ABlk, reduceIte, zF]); refine hK1 _ ?_
      refine awp_seq' fun K hK => ?_
      refine awp_region tyOk tyPos [] rfl ?_
      all_goals simp only [push_cast, ↓brB_true, ↓brB_false, ↓reduceIte, zA, zB, zC, zD, zE, zF, zG, zH, zI, reduceCtorEq]
      all_goals repeat' (first | (apply brB_mk <;> (intro hg; (try simp only [push_cast] at hg))) | apply And.intro | (intro hg; (try simp only [push_cast] at hg)))
      all_goals first | exact gA | (exact getE_dII (by omega)) | skip
      all_goals first | (refine hK _ ?_; clear hK K) | (simp only [push_cast]; done)
      refine awp_ret ?_
      (try simp only [AThen, ABlk])
      refine ⟨Or.inl rfl, ?_⟩
      simp only [RetB, RetOk, cellsB, resVars, resVar, push_cast, ↓brB_true, ↓brB_false, ↓reduceIte, zA, zB, zC, zD, zE, zF, zG, zH, zI, reduceCtorEq]
      all_goals first | rfl | exact hpl.symm | skip
end Go.Proofs.Ytdbecmmeifdafaa

namespace Go.Proofs.Ytdbecmmeifdafaa
open Go.RowKit
set_option linter.unusedVariables false
set_option linter.unusedSimpArgs false
attribute [-push_cast] rm
theorem pL_at (code : List Int) (seed : Int) (a : Ar) (who : Int) (j : Nat) : ∀ v k, k < v → gi (pL code seed a who j v) k = if gi a.owner k = who then gi (gl a.next k) (dv code seed (pJ a who j k) (gl a.next k).length).toNat else -1
  | 0, k, h => absurd h (Nat.not_lt_zero k)
  | v + 1, k, h => by
    show gi (pL code seed a who j v ++ [_]) k = _
    have hl := pL_len code seed a who j v
    rcases Nat.lt_or_ge k v with h1 | h1
    · rw [gi_dL (by omega)]; exact pL_at code seed a who j v k h1
    · have e : k = v := by omega
      subst e
      have := gi_dR (pL code seed a who j k) (if gi a.owner k = who then gi (gl a.next k) (dv code seed (pJ a who j k) (gl a.next k).length).toNat else -1)
      rw [hl] at this
      exact this
theorem hasB_gi {xs : List Int} {k : Nat} (h : k < xs.length) : hasB xs (gi xs k) = true := by
  rw [hasB_iff]
  unfold gi
  rw [List.getD_eq_getElem?_getD, List.getElem?_eq_getElem h]
  exact List.getElem_mem _
end Go.Proofs.Ytdbecmmeifdafaa

namespace Go.Proofs.Ytdbecmmeifdafaa
open Nat renaming reduceMod → zA, reduceMul → zB, reduceDiv → zC, reduceAdd → zD, reduceSub → zE, reduceEqDiff → zF, reduceBEq → zG, reduceLT → zH, reduceLeDiff → zI
open Go.RowKit
set_option linter.unusedVariables false
set_option linter.unusedSimpArgs false

attribute [-push_cast] rm
theorem full_at {a : Ar} (ha : arenaB a = true) {who : Int} {plan : List Int} (hl : plan.length = a.owner.length) (h : ∀ v, v < a.owner.length → (gi a.owner v = who → hasB (gl a.next v) (gi plan v) = true) ∧ (¬ gi a.owner v = who → gi plan v = -1)) : fullB a who plan = true := by
  refine fullB_yes (planB_yes hl fun v hv => planAtB_ok ?_) fun v hv he => ?_
  · by_cases e : gi a.owner v = who
    · exact .inr ⟨e, (h v (by omega)).1 e⟩
    · exact .inl ((h v (by omega)).2 e)
  · have h1 := has_rg ha (v := v) (by omega) ((h v (by omega)).1 he.1)
    omega
theorem fullL_full {a : Ar} (ha : arenaB a = true) {who : Int} {plan : List Int} (hp : planB a who plan = true) : fullB a who (fullL a who plan a.owner.length) = true := by
  obtain ⟨hl, hat⟩ := planB_at hp
  refine full_at ha (fullL_len ..) fun v hv => ?_
  rw [fullL_at hv]
  refine ⟨fun e => ?_, fun e => fullAt_no e⟩
  by_cases h2 : v < plan.length ∧ 0 ≤ gi plan v
  · rw [fullAt_plan e h2]
    rcases hat v h2.1 with h3 | h3
    · omega
    · exact h3.2
  · rw [fullAt_least e h2]
    exact hasB_gi (by have := (arenaB_at ha hv).2.2.1; omega)
theorem pL_full {code : List Int} (hby : BytesOk code) (seed : Int) {a : Ar} (ha : arenaB a = true) (who : Int) (j : Nat) : fullB a who (pL code seed a who j a.owner.length) = true := by
  refine full_at ha (pL_len ..) fun v hv => ?_
  rw [pL_at _ _ _ _ _ _ _ hv]
  refine ⟨fun e => ?_, fun e => if_neg e⟩
  rw [if_pos e]
  have h1 := (arenaB_at ha hv).2.2.1
  have h2 := dv_rg hby seed (pJ a who j v) (n := (gl a.next v).length) (by omega)
  exact hasB_gi (by omega)
def agL (code : List Int) (seed : Int) (j : Nat) (a : Ar) (plan : List Int) (v : Int) : Ls := playL a (fullL a 0 plan a.owner.length) (pL code seed a 1 j a.owner.length) v
theorem agL_is {code : List Int} (hby : BytesOk code) (seed : Int) (j : Nat) {a : Ar} (ha : arenaB a = true) {plan : List Int} (hp : planB a 0 plan = true) {v : Int} (hv : 0 ≤ v ∧ v < a.owner.length) : PlayP a (fullL a 0 plan a.owner.length) (pL code seed a 1 j a.owner.length) v (agL code seed j a plan v) :=
  play_is ha (fullL_full ha hp) (pL_full hby seed ha 1 j) hv
set_option maxRecDepth 20000 in
set_option maxHeartbeats 4000000 in
theorem w6Against_fn (code : List Int) (hby : BytesOk code) (seed : Int) (j : Nat) (a : Ar) (ha : a.Ln 1048576) (hok : arenaB a = true) (plan : List Int) (hp : planB a 0 plan = true) (v : Int) (hv : 0 ≤ v ∧ v < a.owner.length) : FnB Try.prog tyT 23 (dSt code seed j) [.agg (dAr a), .c (.int .i64 0), .c (DI plan), .c (.int .i64 v)] (dSt code seed (pJ a 1 j a.owner.length)) [.agg (dLs (agL code seed j a plan v))] := by
  have hcl := hby.1
  have hal := arenaB_len hok
  have hpl := (planB_at hp).1
  have hF := w6Full_fn a ha hok 0 plan (by omega)
  have hP := w6Plan_fn code hby seed j a hok 1
  have hPl := PlayOf_fn a ha hok _ _ (fullL_full hok hp) (pL_full hby seed hok 1 j) v hv
  have hfl := fullL_len a 0 plan a.owner.length
  have hpl2 := pL_len code seed a 1 j a.owner.length
  generalize hg : agL code seed j a plan v = R
  unfold agL at hg
  rw [hg] at hPl
  clear hg
  generalize fullL a 0 plan a.owner.length = even at hF hPl hfl
  generalize pL code seed a 1 j a.owner.length = odd at hP hPl hpl2
  generalize pJ a 1 j a.owner.length = j2 at hP ⊢
  unfold dAr at hF hP hPl ⊢
  unfold dLs at hPl ⊢
  refine FnB_of (fn := Try.f23) (rs := [.cell 10 43]) tyOk tyPos Try.func23 (by kernel_rfl) rfl rfl (by rw [Try.ntmps23]; exact Nat.le_of_ble_eq_true rfl) rfl (by simp only [szA, List.mem_cons, List.not_mem_nil, or_false, forall_eq_or_imp, forall_eq, VT.cells, szL]; try decide) (Nat.le_of_ble_eq_true rfl) (by simp only [szL]; decide) (Nat.le_of_ble_eq_true rfl) rfl ?_
  rw [Try.ntmps23]
  simp only [push_cast, ↓brB_true, ↓brB_false, ↓reduceIte, zA, zB, zC, zD, zE, zF, zG, zH, zI, reduceCtorEq]
  refine awp_seq' fun K hK => ?_
  refine awp_region tyOk tyPos [] rfl ?_
  simp only [push_cast, ↓brB_true, ↓brB_false, ↓reduceIte, zA, zB, zC, zD, zE, zF, zG, zH, zI, reduceCtorEq]
  repeat' apply And.intro
  all_goals try exact gB
  all_goals first | (refine hK _ ?_; clear hK K) | (simp only [push_cast]; done)
  refine awp_seq' fun K hK => ?_
  refine awp_region tyOk tyPos [] rfl ?_
  all_goals refine aops_cut 4 fun K9 hK9 => ?_
  all_goals simp only [push_cast, ↓brB_true, ↓brB_false, ↓reduceIte, zA, zB, zC, zD, zE, zF, zG, zH, zI, reduceCtorEq]
  all_goals repeat' (first | (apply brB_mk <;> (intro hg; (try simp only [push_cast] at hg))) | (refine ⟨_, hF, ?_⟩; simp only [push_cast, ↓brB_true, ↓brB_false, ↓reduceIte, zA, zB, zC, zD, zE, zF, zG, zH, zI, reduceCtorEq]) | apply And.intro | (intro hg; (try simp only [push_cast] at hg)))
  all_goals try exact gA
  all_goals first | (refine hK9 _ ?_; clear hK9 K9) | (simp only [push_cast]; done)
  all_goals simp only [push_cast, ↓brB_true, ↓brB_false, ↓reduceIte, zA, zB, zC, zD, zE, zF, zG, zH, zI, reduceCtorEq]
  all_goals repeat' (first | (apply brB_mk <;> (intro hg; (try simp only [push_cast] at hg))) | (refine ⟨_, hF, ?_⟩; simp only [push_cast, ↓brB_true, ↓brB_false, ↓reduceIte, zA, zB, zC, zD, zE, zF, zG, zH, zI, reduceCtorEq]) | apply And.intro | (intro hg; (try simp only [push_cast] at hg)))
  all_goals try exact gA
  all_goals first | (refine hK _ ?_; clear hK K) | (simp only [push_cast]; done)
  refine awp_seq' fun K hK => ?_
  refine awp_regionN false tyOk tyPos ?_ rfl ?_
  · kernel_rfl
  all_goals refine seqE_cut 5 fun K9 hK9 => ?_
  all_goals simp only [push_cast, ↓brB_true, ↓brB_false, ↓reduceIte, zA, zB, zC, zD, zE, zF, zG, zH, zI, reduceCtorEq]
  all_goals repeat' (first | (apply brB_mk <;> (intro hg; (try simp only [push_cast] at hg))) | (refine ⟨_, _, hP, ?_⟩; simp only [push_cast, ↓brB_true, ↓brB_false, ↓reduceIte, zA, zB, zC, zD, zE, zF, zG, zH, zI, reduceCtorEq]) | apply And.intro | (intro hg; (try simp only [push_cast] at hg)))
  all_goals try exact gA
  all_goals first | (refine hK9 _ ?_; clear hK9 K9) | (simp only [push_cast]; done)
  all_goals simp only [push_cast, ↓brB_true, ↓brB_false, ↓reduceIte, zA, zB, zC, zD, zE, zF, zG, zH, zI, reduceCtorEq]
  all_goals repeat' (first | (apply brB_mk <;> (intro hg; (try simp only [push_cast] at hg))) | (refine ⟨_, _, hP, ?_⟩; simp only [push_cast, ↓brB_true, ↓brB_false, ↓reduceIte, zA, zB, zC, zD, zE, zF, zG, zH, zI, reduceCtorEq]) | apply And.intro | (intro hg; (try simp only [push_cast] at hg)))
  all_goals try exact gA
  all_goals first | (refine hK _ ?_; clear hK K) | (simp only [push_cast]; done)
  refine awp_seq' fun K1 hK1 => ?_
  refine awp_settle 2 12 (Nat.le_of_ble_eq_true rfl) ?_
  simp only [push_cast, ↓brB_true, ↓brB_false, ↓reduceIte, zA, zB, zC, zD, zE, zF, zG, zH, zI, reduceCtorEq]
  refine awp_seq' fun K hK => ?_
  refine awp_region tyOk tyPos [] rfl ?_
  simp only [push_cast, ↓brB_true, ↓brB_false, ↓reduceIte, zA, zB, zC, zD, zE, zF, zG, zH, zI, reduceCtorEq]
  repeat' apply And.intro
  all_goals try exact gB
  all_goals first | (refine hK _ ?_; clear hK K) | (simp only [push_cast]; done)
  refine awp_cond rfl (fun hc => ?_) (fun hc => ?_)
  skip
  · exfalso; first | (cases hc; done) | (simp only [push_cast] at hc; done) | (simp only [push_cast] at hc; omega) | omega
  refine awp_skip ?_
  (try simp only [AThen, ABlk, reduceIte, zF]); refine hK1 _ ?_
  refine awp_seq' fun K hK => ?_
  refine awp_region tyOk tyPos [] rfl ?_
  all_goals refine aops_cut 5 fun K9 hK9 => ?_
  all_goals simp only [push_cast, ↓brB_true, ↓brB_false, ↓reduceIte, zA, zB, zC, zD, zE, zF, zG, zH, zI, reduceCtorEq]
  all_goals repeat' (first | (apply brB_mk <;> (intro hg; (try simp only [push_cast] at hg))) | (refine ⟨_, hPl, ?_⟩; simp only [push_cast, ↓brB_true, ↓brB_false, ↓reduceIte, zA, zB, zC, zD, zE, zF, zG, zH, zI, reduceCtorEq]) | apply And.intro | (intro hg; (try simp only [push_cast] at hg)))
  all_goals try exact gA
  all_goals first | (refine hK9 _ ?_; clear hK9 K9) | (simp only [push_cast]; done)
  all_goals simp only [push_cast, ↓brB_true, ↓brB_false, ↓reduceIte, zA, zB, zC, zD, zE, zF, zG, zH, zI, reduceCtorEq]
  all_goals repeat' (first | (apply brB_mk <;> (intro hg; (try simp only [push_cast] at hg))) | (refine ⟨_, hPl, ?_⟩; simp only [push_cast, ↓brB_true, ↓brB_false, ↓reduceIte, zA, zB, zC, zD, zE, zF, zG, zH, zI, reduceCtorEq]) | apply And.intro | (intro hg; (try simp only [push_cast] at hg)))
  all_goals try exact gA
  all_goals first | (refine hK _ ?_; clear hK K) | (simp only [push_cast]; done)
  refine awp_seq' fun K hK => ?_
  refine awp_region tyOk tyPos [] rfl ?_
  simp only [push_cast, ↓brB_true, ↓brB_false, ↓reduceIte, zA, zB, zC, zD, zE, zF, zG, zH, zI, reduceCtorEq]
  repeat' apply And.intro
  all_goals try exact gB
  all_goals first | (refine hK _ ?_; clear hK K) | (simp only [push_cast]; done)
  refine awp_ret ?_
  (try simp only [AThen, ABlk])
  refine ⟨Or.inl rfl, ?_⟩
  simp only [RetB, RetOk, cellsB, resVars, resVar, push_cast, ↓brB_true, ↓brB_false, ↓reduceIte, zA, zB, zC, zD, zE, zF, zG, zH, zI, reduceCtorEq]
end Go.Proofs.Ytdbecmmeifdafaa

namespace Go.Proofs.Ytdbecmmeifdafaa
open Go.RowKit
set_option linter.unusedVariables false
set_option linter.unusedSimpArgs false

theorem toNat_p1m1 (k : Nat) : ((k : Int) + 1 - 1).toNat = k := by omega
attribute [push_cast] toNat_p1m1
def stepL (w : Wt) (l : Ls) (i : Nat) : Int := stepC w (gi (wayL l) i) (gi (wayL l) (i + 1))
theorem wayL_at2 {l : Ls} {j : Nat} (h : j < l.loop.length) : gi (wayL l) (l.stem.length + j) = gi l.loop j := by
  unfold wayL
  rw [gi_app (by simp; omega), gi_app_r rfl]
theorem wayL_at3 {l : Ls} : gi (wayL l) (l.stem.length + l.loop.length) = gi l.loop 0 := by
  unfold wayL
  have := gi_app_at (xs := l.stem ++ l.loop) (y := gi l.loop 0)
  rwa [List.length_append] at this
end Go.Proofs.Ytdbecmmeifdafaa

namespace Go.Proofs.Ytdbecmmeifdafaa
open Go.RowKit
set_option linter.unusedVariables false
set_option linter.unusedSimpArgs false

theorem play_pot {w : Wt} {even odd : List Int} {v0 : Int} {l : Ls} (hP : PlayP w.a even odd v0 l) (S : Nat → Prop) (B : Nat → Int) {q d m : Int} (hS : S v0.toNat)
    (h : ∀ v, v < w.a.owner.length → S v → S (goP w.a even odd v).toNat ∧ B (goP w.a even odd v).toNat ≤ B v + q * (stepC w v (goP w.a even odd v) * d - m)) :
    ∀ k i, i + k ≤ l.stem.length + l.loop.length → S (gi (wayL l) i).toNat → S (gi (wayL l) (i + k)).toNat ∧ B (gi (wayL l) (i + k)).toNat ≤ B (gi (wayL l) i).toNat + q * (psum (fun j => stepL w l (i + j)) k * d - k * m)
  | 0, i, hk, hs => by
    refine ⟨hs, ?_⟩
    show B (gi (wayL l) i).toNat ≤ B (gi (wayL l) i).toNat + q * ((0 : Int) * d - ((0 : Nat) : Int) * m)
    rw [Int.zero_mul, Int.natCast_zero, Int.zero_mul, Int.sub_zero, Int.mul_zero, Int.add_zero]
    exact Int.le_refl _
  | k + 1, i, hk, hs => by
    obtain ⟨s1, b1⟩ := play_pot hP S B hS h k i (by omega) hs
    have hr := hP.rg (i + k) (by omega)
    have hg := hP.go (i + k) (by omega)
    have h2 := h (gi (wayL l) (i + k)).toNat (by omega) s1
    rw [Int.toNat_of_nonneg hr.1, ← hg] at h2
    refine ⟨h2.1, ?_⟩
    have h3 := h2.2
    have e : psum (fun j => stepL w l (i + j)) (k + 1) = psum (fun j => stepL w l (i + j)) k + stepC w (gi (wayL l) (i + k)) (gi (wayL l) (i + k + 1)) := rfl
    have e2 : q * (psum (fun j => stepL w l (i + j)) (k + 1) * d - ((k + 1 : Nat) : Int) * m) = q * (psum (fun j => stepL w l (i + j)) k * d - k * m) + q * (stepC w (gi (wayL l) (i + k)) (gi (wayL l) (i + k + 1)) * d - m) := by
      rw [e, show ((k + 1 : Nat) : Int) = (k : Int) + 1 by omega, Int.add_mul, Int.add_mul, Int.one_mul, ← Int.mul_add]
      refine congrArg (q * ·) ?_
      show _ = _
      omega
    rw [e2]
    show B (gi (wayL l) (i + k + 1)).toNat ≤ _
    omega
theorem loopV_steps {w : Wt} {l : Ls} (h1 : 1 ≤ l.loop.length) : loopV w l = psum (fun j => stepL w l (l.stem.length + j)) l.loop.length := by
  unfold loopV
  refine psum_congr fun k hk => ?_
  unfold stepL nextAt
  rw [wayL_at2 hk]
  split
  · rw [show l.stem.length + k + 1 = l.stem.length + (k + 1) from by omega, wayL_at2 (by assumption)]
  · rw [show l.stem.length + k + 1 = l.stem.length + l.loop.length from by omega, wayL_at3]
theorem loop_pot {w : Wt} {even odd : List Int} {v0 : Int} {l : Ls} (hP : PlayP w.a even odd v0 l) (S : Nat → Prop) (B : Nat → Int) {q d m : Int} (hS : S v0.toNat)
    (h : ∀ v, v < w.a.owner.length → S v → S (goP w.a even odd v).toNat ∧ B (goP w.a even odd v).toNat ≤ B v + q * (stepC w v (goP w.a even odd v) * d - m)) :
    0 ≤ q * (loopV w l * d - l.loop.length * m) := by
  have h0 : S (gi (wayL l) 0).toNat := by rw [hP.first]; exact hS
  have h1 := (play_pot hP S B hS h l.stem.length 0 (by omega) h0).1
  rw [Nat.zero_add] at h1
  have h2 := (play_pot hP S B hS h l.loop.length l.stem.length (Nat.le_refl _) h1).2
  rw [hP.last, ← loopV_steps hP.pos] at h2
  omega
theorem goP_edge {w : Wt} (hwb : weightedB w = true) {plan odd : List Int} (hp : planB w.a 0 plan = true) (h1 : fullB w.a 1 odd = true) {v : Nat} (hv : v < w.a.owner.length) :
    (gi w.a.owner v = 0 → 0 ≤ gi plan v → goP w.a (fullL w.a 0 plan w.a.owner.length) odd v = gi plan v) ∧
    ∃ j, j < (gl w.a.next v).length ∧ goP w.a (fullL w.a 0 plan w.a.owner.length) odd v = gi (gl w.a.next v) j := by
  have hfw := weighted_facts hwb
  constructor
  · intro e h
    unfold goP
    rw [Int.toNat_natCast, if_pos e, fullL_at hv, fullAt_plan e ⟨by have := (planB_at hp).1; omega, h⟩]
  · have h2 := (goP_ok hfw.1 (fullL_full hfw.1 hp) h1 (v := (v : Int)) (by omega)).1
    rw [Int.toNat_natCast] at h2
    unfold hasB at h2
    have h3 := of_decide_eq_true h2
    exact ⟨_, h3, (fidx_spec h3).symm⟩
end Go.Proofs.Ytdbecmmeifdafaa
