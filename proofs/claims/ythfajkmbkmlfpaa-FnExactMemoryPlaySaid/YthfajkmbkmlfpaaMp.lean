/- a play of a memory strategy: plain -/
import Derived.Test.YthfajkmbkmlfpaaMe
import Derived.Test.YthfajkmbkmlfpaaGD
namespace Go.Proofs.Ythfajkmbkmlfpaa
open Go.RowKit
set_option linter.unusedVariables false
set_option linter.unusedSimpArgs false

theorem nodup_le : ∀ (N : Nat) (l : List Nat), l.Nodup → (∀ x ∈ l, x < N) → l.length ≤ N
  | 0, l, _, h => by
    cases l with
    | nil => simp
    | cons x l => have := h x List.mem_cons_self; omega
  | N + 1, l, hn, h => by
    have h1 := List.length_eq_countP_add_countP (p := fun x => x == N) (l := l)
    have h2 : l.countP (fun x => x == N) ≤ 1 := List.nodup_iff_count.1 hn N
    have h4 := nodup_le N (l.filter (fun x => !(x == N))) (hn.filter _) fun x hx => by
      have h5 := List.mem_filter.1 hx
      have h6 := h x h5.1
      have h7 : ¬ x = N := by simpa using h5.2
      omega
    have h3 : (l.filter (fun x => !(x == N))).length = l.countP (fun x => !(x == N)) := (List.countP_eq_length_filter ..).symm
    have h8 : l.countP (fun x => decide ¬ (x == N) = true) = l.countP (fun x => !(x == N)) := by
      congr 1
      funext x
      by_cases e : x = N <;> simp [e]
    omega
/-- So many pairs of a vertex and a state, all different, are at most so many. -/
theorem pairs_le {path st : List Int} {n S : Nat} (hn : n ≤ 256) (hS : S ≤ 24) (h1 : ∀ j, j < path.length → (0 ≤ gi path j ∧ gi path j < n) ∧ 0 ≤ gi st j ∧ gi st j < S) (h2 : ∀ j, j < path.length → ∀ i, i < j → ¬ (gi path i = gi path j ∧ gi st i = gi st j)) : path.length ≤ 6144 := by
  have hl : ((List.range path.length).map fun j => (gi path j).toNat + 256 * (gi st j).toNat).length = path.length := by simp
  rw [← hl]
  refine nodup_le 6144 _ ?_ fun x hx => ?_
  · refine List.pairwise_iff_getElem.2 fun i j hi hj hij => ?_
    rw [hl] at hi hj
    simp only [List.getElem_map, List.getElem_range]
    have a1 := h1 i hi
    have a2 := h1 j hj
    have a3 := h2 j hj i hij
    intro e
    exact a3 (by omega)
  · obtain ⟨j, hj, rfl⟩ := List.mem_map.1 hx
    have a1 := h1 j (List.mem_range.1 hj)
    omega
/-- Where a pair stands, from an index on. -/
def fvN (path st : List Int) (v s : Int) : Nat → Nat → Nat
  | i, 0 => i
  | i, m + 1 => if gi path i = v ∧ gi st i = s then i else fvN path st v s (i + 1) m
theorem fvN_step {path st : List Int} {v s : Int} {i d : Nat} (h : i < d) : fvN path st v s i (d - i) = if gi path i = v ∧ gi st i = s then i else fvN path st v s (i + 1) (d - (i + 1)) := by
  rw [show d - i = (d - (i + 1)) + 1 from by omega]
  rfl
def goU (a : Ar) (m : Me) (odd : List Int) (v s : Int) : Int := if gi a.owner v.toNat = 0 then gi (gl m.choice s.toNat) v.toNat else gi odd v.toNat
def goS (m : Me) (v s : Int) : Int := gi (gl m.next s.toNat) v.toNat
/-- The play, by so many steps at most. -/
def runM (a : Ar) (m : Me) (odd : List Int) : Nat → List Int → List Int → Int → Int → Ls × Bool
  | 0, _, _, _, _ => (⟨[], []⟩, false)
  | F + 1, path, st, v, s =>
    if fvN path st v s 0 path.length < path.length then
      if 256 < fvN path st v s 0 path.length ∨ 256 < path.length - fvN path st v s 0 path.length then (⟨[], []⟩, false)
      else (⟨path.take (fvN path st v s 0 path.length), path.drop (fvN path st v s 0 path.length)⟩, true)
    else if goU a m odd v s < 0 then (⟨[], []⟩, false)
    else runM a m odd F (path ++ [v]) (st ++ [s]) (goU a m odd v s) (goS m v s)
theorem runM_hit {a : Ar} {m : Me} {odd : List Int} {F : Nat} {path st : List Int} {v s : Int} {k : Nat} (hf : fvN path st v s 0 path.length = k) (hk : k < path.length) (h : ¬ (256 < k ∨ 256 < path.length - k)) : runM a m odd (F + 1) path st v s = (⟨path.take k, path.drop k⟩, true) := by
  rw [runM, hf, if_pos hk, if_neg h]
theorem runM_far {a : Ar} {m : Me} {odd : List Int} {F : Nat} {path st : List Int} {v s : Int} {k : Nat} (hf : fvN path st v s 0 path.length = k) (hk : k < path.length) (h : 256 < k ∨ 256 < path.length - k) : runM a m odd (F + 1) path st v s = (⟨[], []⟩, false) := by
  rw [runM, hf, if_pos hk, if_pos h]
theorem runM_end {a : Ar} {m : Me} {odd : List Int} {F : Nat} {path st : List Int} {v s : Int} (hf : fvN path st v s 0 path.length = path.length) (h : goU a m odd v s < 0) : runM a m odd (F + 1) path st v s = (⟨[], []⟩, false) := by
  rw [runM, hf, if_neg (Nat.lt_irrefl _), if_pos h]
theorem runM_go {a : Ar} {m : Me} {odd : List Int} {F : Nat} {path st : List Int} {v s : Int} (hf : fvN path st v s 0 path.length = path.length) (h : ¬ goU a m odd v s < 0) : runM a m odd (F + 1) path st v s = runM a m odd F (path ++ [v]) (st ++ [s]) (goU a m odd v s) (goS m v s) := by
  rw [runM, hf, if_neg (Nat.lt_irrefl _), if_neg h]
/-- What a play keeps. -/
structure PlayI (a : Ar) (m : Me) (path st : List Int) (v s : Int) : Prop where
  len : st.length = path.length
  rg : ∀ j, j < path.length → (0 ≤ gi path j ∧ gi path j < a.owner.length) ∧ 0 ≤ gi st j ∧ gi st j < m.next.length
  ne : ∀ j, j < path.length → ∀ i, i < j → ¬ (gi path i = gi path j ∧ gi st i = gi st j)
  hv : 0 ≤ v ∧ v < a.owner.length
  hs : 0 ≤ s ∧ s < m.next.length
theorem gi_snoc {xs : List Int} {y : Int} {j : Nat} (h : j < xs.length + 1) : gi (xs ++ [y]) j = if j = xs.length then y else gi xs j := by
  by_cases e : j = xs.length
  · subst e; rw [if_pos rfl, gi_app_at]
  · rw [if_neg e, gi_app (by omega)]
theorem PlayI.next {a : Ar} {m : Me} {path st : List Int} {v s : Int} (h : PlayI a m path st v s) (hno : ∀ j, j < path.length → ¬ (gi path j = v ∧ gi st j = s)) {v' s' : Int} (hv : 0 ≤ v' ∧ v' < a.owner.length) (hs : 0 ≤ s' ∧ s' < m.next.length) : PlayI a m (path ++ [v]) (st ++ [s]) v' s' := by
  have hl := h.len
  refine ⟨by simp [hl], fun j hj => ?_, fun j hj i hi => ?_, hv, hs⟩
  · rw [List.length_append] at hj
    have hj : j < path.length + 1 := hj
    rw [gi_snoc hj, gi_snoc (by omega), hl]
    split
    · exact ⟨h.hv, h.hs⟩
    · exact h.rg j (by omega)
  · rw [List.length_append] at hj
    have hj : j < path.length + 1 := hj
    have e1 : gi (path ++ [v]) i = gi path i := gi_app (by omega)
    have e2 : gi (st ++ [s]) i = gi st i := gi_app (by omega)
    rw [e1, e2]
    by_cases e : j = path.length
    · subst e
      rw [gi_app_at]
      have e3 : gi (st ++ [s]) path.length = s := by rw [← hl]; exact gi_app_at
      rw [e3]
      exact hno i (by omega)
    · have e3 : gi (path ++ [v]) j = gi path j := gi_app (by omega)
      have e4 : gi (st ++ [s]) j = gi st j := gi_app (by omega)
      rw [e3, e4]
      exact h.ne j (by omega) i hi
theorem PlayI.le {a : Ar} {m : Me} {path st : List Int} {v s : Int} (h : PlayI a m path st v s) (hn : a.owner.length ≤ 256) (hS : m.next.length ≤ 24) : path.length ≤ 6144 := pairs_le hn hS h.rg h.ne
/-- A plan without gaps for its player. -/
def fullB (a : Ar) (who : Int) (plan : List Int) : Bool := planB a who plan && allB plan.length (fun v => !(decide (gi a.owner v = who) && decide (gi plan v < 0)))
theorem fullB_no1 {a : Ar} {who : Int} {plan : List Int} (h : planB a who plan = false) : fullB a who plan = false := by unfold fullB; rw [h]; rfl
theorem fullB_no2 {a : Ar} {who : Int} {plan : List Int} {v : Nat} (hv : v < plan.length) (h : gi a.owner v = who) (h2 : gi plan v < 0) : fullB a who plan = false := by
  unfold fullB; rw [allB_false hv (by rw [decide_eq_true h, decide_eq_true h2]; rfl), Bool.and_false]
theorem fullB_yes {a : Ar} {who : Int} {plan : List Int} (h : planB a who plan = true) (h2 : ∀ v, v < plan.length → ¬ (gi a.owner v = who ∧ gi plan v < 0)) : fullB a who plan = true := by
  unfold fullB
  rw [h, allB_true fun v hv => by
    have := h2 v hv
    rw [Bool.not_eq_true', Bool.and_eq_false_iff, decide_eq_false_iff_not, decide_eq_false_iff_not]
    omega]
  rfl
theorem setB_at' {xs : List Int} {n : Int} (h : isSetB xs n = true) {j : Nat} (hj : j < xs.length) : 0 ≤ gi xs j ∧ gi xs j < n := by
  have := allB_at h hj
  unfold riseAt at this
  have := of_decide_eq_true this
  exact ⟨this.1, this.2.1⟩
theorem has_rg {a : Ar} (h : arenaB a = true) {v : Nat} (hv : v < a.owner.length) {u : Int} (hu : hasB (gl a.next v) u = true) : 0 ≤ u ∧ u < a.owner.length := by
  have h1 := (arenaB_at h hv).2.2.2.2
  unfold hasB fidx at hu
  rw [decide_eq_true_eq] at hu
  have h2 := List.findIdx_getElem (p := fun y => y == u) (xs := gl a.next v) (w := hu)
  have h3 := setB_at' h1 hu
  have h4 : gi (gl a.next v) ((gl a.next v).findIdx fun y => y == u) = u := by
    unfold gi
    rw [List.getD_eq_getElem?_getD, List.getElem?_eq_getElem hu]
    simpa using h2
  rw [h4] at h3
  exact h3
def mpB (a : Ar) (m : Me) (odd : List Int) (v : Int) : Bool := arenaB a && memI a m && fullB a 1 odd && decide (0 ≤ v ∧ v < a.owner.length)
def mpRes (a : Ar) (m : Me) (odd : List Int) (v : Int) : Ls × Bool := if mpB a m odd v then runM a m odd 6145 [] [] v 0 else (⟨[], []⟩, false)
theorem mp_no {a : Ar} {m : Me} {odd : List Int} {v : Int} (h : arenaB a = false ∨ memI a m = false ∨ fullB a 1 odd = false ∨ ¬ (0 ≤ v ∧ v < a.owner.length)) : mpRes a m odd v = (⟨[], []⟩, false) := by
  have : mpB a m odd v = false := by
    unfold mpB
    rcases h with h | h | h | h
    · rw [h]; rfl
    · rw [h, Bool.and_false]; rfl
    · rw [h, Bool.and_false]; rfl
    · rw [decide_eq_false h, Bool.and_false]
  unfold mpRes; rw [this]; exact if_neg (by decide)
theorem mp_yes {a : Ar} {m : Me} {odd : List Int} {v : Int} (h1 : arenaB a = true) (h2 : memI a m = true) (h3 : fullB a 1 odd = true) (h4 : 0 ≤ v ∧ v < a.owner.length) : mpRes a m odd v = runM a m odd 6145 [] [] v 0 := by
  have : mpB a m odd v = true := by unfold mpB; rw [h1, h2, h3, decide_eq_true h4]; rfl
  unfold mpRes; rw [this]; exact if_pos rfl
theorem memI_facts {a : Ar} {m : Me} (h : memI a m = true) : (1 ≤ m.next.length ∧ m.next.length ≤ 24 ∧ m.choice.length = m.next.length) ∧ ∀ s, s < m.next.length → (gl m.next s).length = a.owner.length ∧ planB a 0 (gl m.choice s) = true ∧ ∀ v, v < (gl m.next s).length → 0 ≤ gi (gl m.next s) v ∧ gi (gl m.next s) v < m.next.length := by
  unfold memI at h
  rw [Bool.and_eq_true, decide_eq_true_eq] at h
  refine ⟨h.1, fun s hs => ?_⟩
  have h2 := allB_at (p := fun s => mrowB a (gl m.next s) (gl m.choice s) m.next.length) h.2 hs
  unfold mrowB at h2
  rw [Bool.and_eq_true, Bool.and_eq_true, decide_eq_true_eq] at h2
  exact ⟨h2.1, h2.2.1, fun v hv => of_decide_eq_true (allB_at (p := fun v => decide (0 ≤ gi (gl m.next s) v ∧ gi (gl m.next s) v < (m.next.length : Int))) h2.2.2 hv)⟩
theorem fullB_facts {a : Ar} {who : Int} {plan : List Int} (h : fullB a who plan = true) : planB a who plan = true ∧ ∀ v, v < plan.length → ¬ (gi a.owner v = who ∧ gi plan v < 0) := by
  unfold fullB at h
  rw [Bool.and_eq_true] at h
  refine ⟨h.1, fun v hv => ?_⟩
  have := allB_at (p := fun v => !(decide (gi a.owner v = who) && decide (gi plan v < 0))) h.2 hv
  simp only [Bool.not_eq_true', Bool.and_eq_false_iff, decide_eq_false_iff_not] at this
  omega
theorem go_rg {a : Ar} {m : Me} {odd : List Int} (h1 : arenaB a = true) (h2 : memI a m = true) (h3 : fullB a 1 odd = true) {v s : Int} (hv : 0 ≤ v ∧ v < a.owner.length) (hs : 0 ≤ s ∧ s < m.next.length) : (goU a m odd v s < 0 ∨ (0 ≤ goU a m odd v s ∧ goU a m odd v s < a.owner.length)) ∧ 0 ≤ goS m v s ∧ goS m v s < m.next.length := by
  obtain ⟨k1, k2⟩ := memI_facts h2
  obtain ⟨k3, k4, k5⟩ := k2 s.toNat (by omega)
  have k6 := planB_at k4
  have k7 := planB_at (fullB_facts h3).1
  refine ⟨?_, k5 v.toNat (by omega)⟩
  unfold goU
  split
  · rcases k6.2 v.toNat (by omega) with e | e
    · left; omega
    · right; exact has_rg h1 (by omega) e.2
  · rcases k7.2 v.toNat (by omega) with e | e
    · left; omega
    · right; exact has_rg h1 (by omega) e.2
theorem runM_len {a : Ar} {m : Me} {odd : List Int} : ∀ (F : Nat) (path st : List Int) (v s : Int), (runM a m odd F path st v s).1.Ln 1048576
  | 0, _, _, _, _ => ⟨by unfold LnI; simp [runM], by unfold LnI; simp [runM]⟩
  | F + 1, path, st, v, s => by
    rw [runM]
    split
    · split
      · exact ⟨by unfold LnI; simp, by unfold LnI; simp⟩
      · exact ⟨by unfold LnI; simp; omega, by unfold LnI; simp; omega⟩
    · split
      · exact ⟨by unfold LnI; simp, by unfold LnI; simp⟩
      · exact runM_len F _ _ _ _
theorem mp_len {a : Ar} {m : Me} {odd : List Int} {v : Int} : (mpRes a m odd v).1.Ln 1048576 := by
  unfold mpRes
  split
  · exact runM_len _ _ _ _ _
  · exact ⟨by unfold LnI; simp, by unfold LnI; simp⟩
end Go.Proofs.Ythfajkmbkmlfpaa
