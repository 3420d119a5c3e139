/- full plans and plays by them: plain -/
import Derived.Test.YtdbecmmeifdafaaPnzcr
import Derived.Test.YtdbecmmeifdafaaGWzcr
namespace Go.Proofs.Ytdbecmmeifdafaa
open Go.RowKit
set_option linter.unusedVariables false
set_option linter.unusedSimpArgs false

theorem nodup_le : ∀ (N : Nat) (l : List Nat), l.Nodup → (∀ x ∈ l, x < N) → l.length ≤ N
  | 0, l, _, h => by
    cases l with
    | nil => simp
    | cons x l => have := h x List.mem_cons_self; omega
  | N + 1, l, hn, h => by
    have h1 := List.length_eq_countP_add_countP (p := fun x => x == N) (l := l)
    have h2 : l.countP (fun x => x == N) ≤ 1 := List.nodup_iff_count.1 hn N
    have h4 := nodup_le N (l.filter (fun x => !(x == N))) (hn.filter _) fun x hx => by
      have h5 := List.mem_filter.1 hx
      have h6 := h x h5.1
      have h7 : ¬ x = N := by simpa using h5.2
      omega
    have h3 : (l.filter (fun x => !(x == N))).length = l.countP (fun x => !(x == N)) := (List.countP_eq_length_filter ..).symm
    have h8 : l.countP (fun x => decide ¬ (x == N) = true) = l.countP (fun x => !(x == N)) := by
      congr 1
      funext x
      by_cases e : x = N <;> simp [e]
    omega
theorem gi_snoc {xs : List Int} {y : Int} {j : Nat} (h : j < xs.length + 1) : gi (xs ++ [y]) j = if j = xs.length then y else gi xs j := by
  by_cases e : j = xs.length
  · subst e; rw [if_pos rfl, gi_app_at]
  · rw [if_neg e, gi_app (by omega)]
/-- A plan without gaps for its player. -/
def fullB (a : Ar) (who : Int) (plan : List Int) : Bool := planB a who plan && allB plan.length (fun v => !(decide (gi a.owner v = who) && decide (gi plan v < 0)))
theorem fullB_no1 {a : Ar} {who : Int} {plan : List Int} (h : planB a who plan = false) : fullB a who plan = false := by unfold fullB; rw [h]; rfl
theorem fullB_no2 {a : Ar} {who : Int} {plan : List Int} {v : Nat} (hv : v < plan.length) (h : gi a.owner v = who) (h2 : gi plan v < 0) : fullB a who plan = false := by
  unfold fullB; rw [allB_false hv (by rw [decide_eq_true h, decide_eq_true h2]; rfl), Bool.and_false]
theorem fullB_yes {a : Ar} {who : Int} {plan : List Int} (h : planB a who plan = true) (h2 : ∀ v, v < plan.length → ¬ (gi a.owner v = who ∧ gi plan v < 0)) : fullB a who plan = true := by
  unfold fullB
  rw [h, allB_true fun v hv => by
    have := h2 v hv
    rw [Bool.not_eq_true', Bool.and_eq_false_iff, decide_eq_false_iff_not, decide_eq_false_iff_not]
    omega]
  rfl
theorem setB_at' {xs : List Int} {n : Int} (h : isSetB xs n = true) {j : Nat} (hj : j < xs.length) : 0 ≤ gi xs j ∧ gi xs j < n := by
  have := allB_at h hj
  unfold riseAt at this
  have := of_decide_eq_true this
  exact ⟨this.1, this.2.1⟩
theorem has_rg {a : Ar} (h : arenaB a = true) {v : Nat} (hv : v < a.owner.length) {u : Int} (hu : hasB (gl a.next v) u = true) : 0 ≤ u ∧ u < a.owner.length := by
  have h1 := (arenaB_at h hv).2.2.2.2
  unfold hasB fidx at hu
  rw [decide_eq_true_eq] at hu
  have h2 := List.findIdx_getElem (p := fun y => y == u) (xs := gl a.next v) (w := hu)
  have h3 := setB_at' h1 hu
  have h4 : gi (gl a.next v) ((gl a.next v).findIdx fun y => y == u) = u := by
    unfold gi
    rw [List.getD_eq_getElem?_getD, List.getElem?_eq_getElem hu]
    simpa using h2
  rw [h4] at h3
  exact h3
theorem fullB_facts {a : Ar} {who : Int} {plan : List Int} (h : fullB a who plan = true) : planB a who plan = true ∧ ∀ v, v < plan.length → ¬ (gi a.owner v = who ∧ gi plan v < 0) := by
  unfold fullB at h
  rw [Bool.and_eq_true] at h
  refine ⟨h.1, fun v hv => ?_⟩
  have := allB_at (p := fun v => !(decide (gi a.owner v = who) && decide (gi plan v < 0))) h.2 hv
  simp only [Bool.not_eq_true', Bool.and_eq_false_iff, decide_eq_false_iff_not] at this
  omega
/-- Where a play goes on from a vertex by two plans. -/
def goP (a : Ar) (even odd : List Int) (v : Int) : Int := if gi a.owner v.toNat = 0 then gi even v.toNat else gi odd v.toNat
/-- A play by two plans, with so much fuel. -/
def runP (a : Ar) (even odd : List Int) : Nat → List Int → Int → Ls
  | 0, _, _ => ⟨[], []⟩
  | F + 1, met, v => if fidx met v < met.length then ⟨met.take (fidx met v), met.drop (fidx met v)⟩ else runP a even odd F (met ++ [v]) (goP a even odd v)
theorem runP_hit {a : Ar} {even odd : List Int} {F : Nat} {met : List Int} {v : Int} (h : hasB met v = true) : runP a even odd (F + 1) met v = ⟨met.take (fidx met v), met.drop (fidx met v)⟩ := if_pos (of_decide_eq_true h)
theorem runP_go {a : Ar} {even odd : List Int} {F : Nat} {met : List Int} {v : Int} (h : hasB met v = false) : runP a even odd (F + 1) met v = runP a even odd F (met ++ [v]) (goP a even odd v) := if_neg (of_decide_eq_false h)
structure MetI (a : Ar) (even odd : List Int) (v0 : Int) (met : List Int) (v : Int) : Prop where
  rg : ∀ j, j < met.length → 0 ≤ gi met j ∧ gi met j < a.owner.length
  ne : ∀ j, j < met.length → ∀ i, i < j → ¬ gi met i = gi met j
  go : ∀ j, j + 1 < met.length → gi met (j + 1) = goP a even odd (gi met j)
  last : 1 ≤ met.length → v = goP a even odd (gi met (met.length - 1))
  f0 : met.length = 0 → v = v0
  f1 : 1 ≤ met.length → gi met 0 = v0
  hv : 0 ≤ v ∧ v < a.owner.length
theorem MetI.start {a : Ar} {even odd : List Int} {v0 : Int} (h : 0 ≤ v0 ∧ v0 < a.owner.length) : MetI a even odd v0 [] v0 :=
  ⟨fun j hj => by simp at hj, fun j hj => by simp at hj, fun j hj => by simp at hj, fun h => by simp at h, fun _ => rfl, fun h => by simp at h, h⟩
theorem MetI.next {a : Ar} {even odd : List Int} {v0 : Int} {met : List Int} {v : Int} (h : MetI a even odd v0 met v) (hn : hasB met v = false) (hg : 0 ≤ goP a even odd v ∧ goP a even odd v < a.owner.length) : MetI a even odd v0 (met ++ [v]) (goP a even odd v) := by
  have hne : ∀ i, i < met.length → ¬ gi met i = v := fun i hi e => by
    have h1 : v ∈ met := by rw [← e]; exact List.mem_of_getElem? (gi_lt hi)
    rw [← hasB_iff] at h1
    rw [h1] at hn
    cases hn
  have hl : (met ++ [v]).length = met.length + 1 := by simp
  refine ⟨fun j hj => ?_, fun j hj i hi => ?_, fun j hj => ?_, fun _ => ?_, fun e => by rw [hl] at e; omega, fun _ => ?_, hg⟩
  · rw [hl] at hj
    rw [gi_snoc hj]
    split
    · exact h.hv
    · exact h.rg j (by omega)
  · rw [hl] at hj
    rw [gi_snoc hj, gi_snoc (by omega), if_neg (by omega)]
    split
    · exact hne i (by omega)
    · exact h.ne j (by omega) i hi
  · rw [hl] at hj
    rw [gi_snoc (j := j + 1) (by omega), gi_snoc (j := j) (by omega), if_neg (show ¬ j = met.length by omega)]
    split
    · have h5 := h.last (by omega)
      rw [show met.length - 1 = j from by omega] at h5
      exact h5
    · exact h.go j (by omega)
  · rw [hl, Nat.add_sub_cancel, gi_snoc (j := met.length) (by omega), if_pos rfl]
  · rw [gi_snoc (by omega)]
    split
    · exact h.f0 (by omega)
    · exact h.f1 (by omega)
theorem nodup_rng {f : Nat → Nat} : ∀ n, (∀ i j, i < j → j < n → f i ≠ f j) → ((List.range n).map f).Nodup
  | 0, _ => by simp
  | n + 1, h => by
    rw [List.range_succ, List.map_append, List.nodup_append]
    refine ⟨nodup_rng n fun i j hij hj => h i j hij (by omega), by simp, fun x hx y hy => ?_⟩
    obtain ⟨i, hi, rfl⟩ := List.mem_map.1 hx
    have hy2 : y = f n := by simpa using hy
    rw [hy2]
    exact h i n (List.mem_range.1 hi) (by omega)
theorem MetI.le {a : Ar} {even odd : List Int} {v0 : Int} {met : List Int} {v : Int} (h : MetI a even odd v0 met v) : met.length ≤ a.owner.length := by
  have hl : ((List.range met.length).map fun j => (gi met j).toNat).length = met.length := by simp
  rw [← hl]
  refine nodup_le _ _ (nodup_rng _ fun i j hij hj => ?_) fun x hx => ?_
  · have h1 := h.ne j hj i hij
    have h2 := h.rg i (by omega)
    have h3 := h.rg j hj
    omega
  · obtain ⟨j, hj, rfl⟩ := List.mem_map.1 hx
    have := h.rg j (List.mem_range.1 hj)
    omega
theorem goP_ok {a : Ar} (ha : arenaB a = true) {even odd : List Int} (h0 : fullB a 0 even = true) (h1 : fullB a 1 odd = true) {v : Int} (hv : 0 ≤ v ∧ v < a.owner.length) : hasB (gl a.next v.toNat) (goP a even odd v) = true ∧ 0 ≤ goP a even odd v ∧ goP a even odd v < a.owner.length := by
  obtain ⟨p0, q0⟩ := fullB_facts h0
  obtain ⟨p1, q1⟩ := fullB_facts h1
  obtain ⟨l0, a0⟩ := planB_at p0
  obtain ⟨l1, a1⟩ := planB_at p1
  have ho := (arenaB_at ha (v := v.toNat) (by omega))
  have h9 : hasB (gl a.next v.toNat) (goP a even odd v) = true := by
    unfold goP
    split
    · rename_i e
      have := q0 v.toNat (by omega)
      rcases a0 v.toNat (by omega) with e2 | e2
      · omega
      · exact e2.2
    · rename_i e
      have := q1 v.toNat (by omega)
      have h5 := ho.1
      have h6 := ho.2.1
      rcases a1 v.toNat (by omega) with e2 | e2
      · omega
      · exact e2.2
  exact ⟨h9, has_rg ha (by omega) h9⟩
theorem runP_ex {a : Ar} (ha : arenaB a = true) {even odd : List Int} (h0 : fullB a 0 even = true) (h1 : fullB a 1 odd = true) {v0 : Int} : ∀ (F : Nat) (met : List Int) (v : Int), MetI a even odd v0 met v → a.owner.length + 1 ≤ F + met.length →
    ∃ m2 v2, MetI a even odd v0 m2 v2 ∧ fidx m2 v2 < m2.length ∧ runP a even odd F met v = ⟨m2.take (fidx m2 v2), m2.drop (fidx m2 v2)⟩
  | 0, met, v, hM, hF => by have := hM.le; omega
  | F + 1, met, v, hM, hF => by
    cases hb : hasB met v
    · rw [runP_go hb]
      exact runP_ex ha h0 h1 F _ _ (hM.next hb (goP_ok ha h0 h1 hM.hv).2) (by rw [List.length_append]; simp; omega)
    · exact ⟨met, v, hM, of_decide_eq_true hb, runP_hit hb⟩
def playB (a : Ar) (even odd : List Int) (v : Int) : Bool := arenaB a && (fullB a 0 even && (fullB a 1 odd && decide (0 ≤ v ∧ v < a.owner.length)))
def playL (a : Ar) (even odd : List Int) (v : Int) : Ls := if playB a even odd v then runP a even odd 257 [] v else ⟨[], []⟩
theorem playB_yes {a : Ar} {even odd : List Int} {v : Int} (ha : arenaB a = true) (h0 : fullB a 0 even = true) (h1 : fullB a 1 odd = true) (hv : 0 ≤ v ∧ v < a.owner.length) : playB a even odd v = true := by unfold playB; rw [ha, h0, h1, decide_eq_true hv]; rfl
theorem playL_no {a : Ar} {even odd : List Int} {v : Int} (h : playB a even odd v = false) : playL a even odd v = ⟨[], []⟩ := if_neg (by rw [h]; decide)
theorem playL_yes {a : Ar} {even odd : List Int} {v : Int} (h : playB a even odd v = true) : playL a even odd v = runP a even odd 257 [] v := if_pos h
/-- What a play by two full plans is. -/
structure PlayP (a : Ar) (even odd : List Int) (v0 : Int) (l : Ls) : Prop where
  ok : lassoB a l = true
  first : gi (wayL l) 0 = v0
  rg : ∀ i, i ≤ l.stem.length + l.loop.length → 0 ≤ gi (wayL l) i ∧ gi (wayL l) i < a.owner.length
  go : ∀ i, i < l.stem.length + l.loop.length → gi (wayL l) (i + 1) = goP a even odd (gi (wayL l) i)
  last : gi (wayL l) (l.stem.length + l.loop.length) = gi (wayL l) l.stem.length
  pos : 1 ≤ l.loop.length
  len : l.stem.length + l.loop.length ≤ a.owner.length
theorem play_is {a : Ar} (ha : arenaB a = true) {even odd : List Int} (h0 : fullB a 0 even = true) (h1 : fullB a 1 odd = true) {v0 : Int} (hv : 0 ≤ v0 ∧ v0 < a.owner.length) : PlayP a even odd v0 (playL a even odd v0) := by
  have hn := (arenaB_len ha).2.1
  obtain ⟨m, v, hM, hk, he⟩ := runP_ex ha h0 h1 257 [] v0 (MetI.start hv) (by simp; omega)
  rw [playL_yes (playB_yes ha h0 h1 hv), he]
  have hle := hM.le
  have hsp := fidx_spec hk
  generalize fidx m v = k at hk hsp ⊢
  have hls : (m.take k).length = k := by rw [List.length_take]; omega
  have hll : (m.drop k).length = m.length - k := List.length_drop ..
  have hg0 : gi (m.drop k) 0 = v := by
    rw [← hsp]
    unfold gi
    rw [List.getD_eq_getElem?_getD, List.getElem?_drop, List.getD_eq_getElem?_getD, Nat.add_zero]
  have hw : wayL ⟨m.take k, m.drop k⟩ = m ++ [v] := by
    unfold wayL
    show m.take k ++ m.drop k ++ [gi (m.drop k) 0] = _
    rw [List.take_append_drop, hg0]
  have hlen : (wayL ⟨m.take k, m.drop k⟩).length = m.length + 1 := by rw [hw]; simp
  have hrg : ∀ i, i < m.length + 1 → 0 ≤ gi (m ++ [v]) i ∧ gi (m ++ [v]) i < a.owner.length := fun i hi => by
    rw [gi_snoc hi]
    split
    · exact hM.hv
    · exact hM.rg i (by omega)
  have hgo : ∀ i, i < m.length → gi (m ++ [v]) (i + 1) = goP a even odd (gi (m ++ [v]) i) := fun i hi => by
    rw [gi_snoc (j := i + 1) (by omega), gi_snoc (j := i) (by omega), if_neg (show ¬ i = m.length by omega)]
    split
    · have h5 := hM.last (by omega)
      rw [show m.length - 1 = i from by omega] at h5
      exact h5
    · exact hM.go i (by omega)
  refine ⟨lassoB_iff.2 ⟨?_, ?_, ?_⟩, ?_, ?_, ?_, ?_, ?_, ?_⟩
  · show (m.take k).length ≤ 256 ∧ 1 ≤ (m.drop k).length ∧ (m.drop k).length ≤ 256
    omega
  · intro j hj
    rw [hlen] at hj
    rw [hw]
    exact hrg j hj
  · intro j hj1 hj
    rw [hlen] at hj
    rw [hw]
    obtain ⟨i, rfl⟩ : ∃ i, j = i + 1 := ⟨j - 1, by omega⟩
    rw [hgo i (by omega), Nat.add_sub_cancel]
    exact (goP_ok ha h0 h1 (hrg i (by omega))).1
  · rw [hw, gi_snoc (by omega)]
    split
    · exact hM.f0 (by omega)
    · exact hM.f1 (by omega)
  · intro i hi
    rw [hw]
    refine hrg i ?_
    have : i ≤ (m.take k).length + (m.drop k).length := hi
    omega
  · intro i hi
    rw [hw]
    refine hgo i ?_
    have : i < (m.take k).length + (m.drop k).length := hi
    omega
  · show gi (wayL ⟨m.take k, m.drop k⟩) ((m.take k).length + (m.drop k).length) = gi (wayL ⟨m.take k, m.drop k⟩) (m.take k).length
    rw [hw, hls, hll, show k + (m.length - k) = m.length from by omega, gi_snoc (j := m.length) (by omega), gi_snoc (j := k) (by omega), if_pos rfl, if_neg (show ¬ k = m.length by omega), hsp]
  · show 1 ≤ (m.drop k).length
    omega
  · show (m.take k).length + (m.drop k).length ≤ a.owner.length
    omega
theorem playL_len (a : Ar) (even odd : List Int) (v : Int) : (playL a even odd v).Ln 1048576 := by
  cases h : playB a even odd v
  · rw [playL_no h]; exact ⟨by simp [LnI], by simp [LnI]⟩
  · unfold playB at h
    simp only [Bool.and_eq_true, decide_eq_true_eq] at h
    have := (lassoB_iff.1 (play_is h.1 h.2.1 h.2.2.1 h.2.2.2).ok).1
    exact ⟨by unfold LnI; omega, by unfold LnI; omega⟩
end Go.Proofs.Ytdbecmmeifdafaa
