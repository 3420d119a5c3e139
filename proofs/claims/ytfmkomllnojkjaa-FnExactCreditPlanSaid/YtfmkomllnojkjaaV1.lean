/- Plain laws on arenas, weighted arenas, lassos: no program. -/
import Derived.Test.YtfmkomllnojkjaaBase
import Derived.Test.YtfmkomllnojkjaaTWeighted
import Derived.Test.YtfmkomllnojkjaaTLasso
namespace Go.Proofs.Ytfmkomllnojkjaa
open Go.RowKit
set_option linter.unusedVariables false
set_option linter.unusedSimpArgs false

def allB (n : Nat) (p : Nat → Bool) : Bool := (List.range n).all p
theorem allB_true {n : Nat} {p : Nat → Bool} (h : ∀ k, k < n → p k = true) : allB n p = true := by
  unfold allB; rw [List.all_eq_true]; intro k hk; exact h k (List.mem_range.1 hk)
theorem allB_false {n k : Nat} {p : Nat → Bool} (hk : k < n) (h : p k = false) : allB n p = false := by
  unfold allB; rw [List.all_eq_false]; exact ⟨k, List.mem_range.2 hk, by simp [h]⟩
theorem allB_at {n k : Nat} {p : Nat → Bool} (h : allB n p = true) (hk : k < n) : p k = true := by
  unfold allB at h; rw [List.all_eq_true] at h; exact h k (List.mem_range.2 hk)
def riseAt (xs : List Int) (n : Int) (k : Nat) : Bool := decide (0 ≤ gi xs k ∧ gi xs k < n ∧ (k = 0 ∨ gi xs (k - 1) < gi xs k))
def isSetB (xs : List Int) (n : Int) : Bool := allB xs.length (riseAt xs n)
theorem set_ge {xs : List Int} {n : Int} (h : isSetB xs n = true) : ∀ k, k < xs.length → (k : Int) ≤ gi xs k := by
  intro k
  induction k with
  | zero =>
    intro hk
    have := allB_at h hk
    unfold riseAt at this
    have := of_decide_eq_true this
    omega
  | succ k ih =>
    intro hk
    have h1 := ih (by omega)
    have := allB_at h hk
    unfold riseAt at this
    have := of_decide_eq_true this
    simp at this
    omega
theorem set_len {xs : List Int} {n : Int} (h : isSetB xs n = true) (h0 : 0 ≤ n) : (xs.length : Int) ≤ n := by
  rcases Nat.eq_zero_or_pos xs.length with h1 | h1
  · omega
  · have h2 := set_ge h (xs.length - 1) (by omega)
    have h3 := allB_at h (k := xs.length - 1) (by omega)
    unfold riseAt at h3
    have h3 := of_decide_eq_true h3
    omega
def ownAt (a : Ar) (v : Nat) : Bool := decide (0 ≤ gi a.owner v ∧ gi a.owner v ≤ 1 ∧ 1 ≤ (gl a.next v).length ∧ (gl a.next v).length ≤ 16)
def arenaAt (a : Ar) (v : Nat) : Bool := ownAt a v && isSetB (gl a.next v) a.owner.length
def arenaB (a : Ar) : Bool := decide (1 ≤ a.owner.length ∧ a.owner.length ≤ 256 ∧ a.next.length = a.owner.length) && allB a.owner.length (arenaAt a)
theorem arenaB_false1 {a : Ar} (h : ¬ (1 ≤ a.owner.length ∧ a.owner.length ≤ 256 ∧ a.next.length = a.owner.length)) : arenaB a = false := by
  unfold arenaB; rw [decide_eq_false h]; rfl
theorem arenaB_false2 {a : Ar} {v : Nat} (hv : v < a.owner.length) (h : arenaAt a v = false) : arenaB a = false := by
  unfold arenaB; rw [allB_false hv h]; simp
theorem arenaB_true {a : Ar} (h : 1 ≤ a.owner.length ∧ a.owner.length ≤ 256 ∧ a.next.length = a.owner.length) (h2 : ∀ v, v < a.owner.length → arenaAt a v = true) : arenaB a = true := by
  unfold arenaB; rw [decide_eq_true h, allB_true h2]; rfl
def inCost (x : Int) : Bool := decide (-1000 ≤ x ∧ x ≤ 1000)
def costAt (w : Wt) (v : Nat) : Bool := decide ((gl w.cost v).length = (gl w.a.next v).length) && allB (gl w.cost v).length (fun k => inCost (gi (gl w.cost v) k))
def costsB (w : Wt) : Bool := decide (w.cost.length = w.a.next.length) && allB w.cost.length (costAt w)
def weightedB (w : Wt) : Bool := arenaB w.a && (decide (w.a.owner.length ≤ 24) && costsB w)
theorem arenaB_len {a : Ar} (h : arenaB a = true) : 1 ≤ a.owner.length ∧ a.owner.length ≤ 256 ∧ a.next.length = a.owner.length := by
  unfold arenaB at h
  rw [Bool.and_eq_true] at h
  exact of_decide_eq_true h.1
theorem arenaB_at {a : Ar} (h : arenaB a = true) {v : Nat} (hv : v < a.owner.length) : 0 ≤ gi a.owner v ∧ gi a.owner v ≤ 1 ∧ 1 ≤ (gl a.next v).length ∧ (gl a.next v).length ≤ 16 ∧ isSetB (gl a.next v) a.owner.length = true := by
  unfold arenaB at h
  rw [Bool.and_eq_true] at h
  have := allB_at h.2 hv
  unfold arenaAt ownAt at this
  rw [Bool.and_eq_true] at this
  have h1 := of_decide_eq_true this.1
  exact ⟨h1.1, h1.2.1, h1.2.2.1, h1.2.2.2, this.2⟩
theorem costsB_false1 {w : Wt} (h : ¬ w.cost.length = w.a.next.length) : costsB w = false := by unfold costsB; rw [decide_eq_false h]; rfl
theorem costsB_false2 {w : Wt} {v : Nat} (hv : v < w.cost.length) (h : costAt w v = false) : costsB w = false := by unfold costsB; rw [allB_false hv h]; simp
theorem costsB_true {w : Wt} (h : w.cost.length = w.a.next.length) (h2 : ∀ v, v < w.cost.length → costAt w v = true) : costsB w = true := by unfold costsB; rw [decide_eq_true h, allB_true h2]; rfl
theorem costAt_false1 {w : Wt} {v : Nat} (h : ¬ (gl w.cost v).length = (gl w.a.next v).length) : costAt w v = false := by unfold costAt; rw [decide_eq_false h]; rfl
theorem costAt_false2 {w : Wt} {v k : Nat} (hk : k < (gl w.cost v).length) (h : inCost (gi (gl w.cost v) k) = false) : costAt w v = false := by unfold costAt; rw [allB_false hk h]; simp
theorem costAt_true {w : Wt} {v : Nat} (h : (gl w.cost v).length = (gl w.a.next v).length) (h2 : ∀ k, k < (gl w.cost v).length → inCost (gi (gl w.cost v) k) = true) : costAt w v = true := by
  unfold costAt; rw [decide_eq_true h, allB_true h2]; rfl
theorem bne_iff (a b : Nat) : ((a : Int) != (b : Int)) = !decide (a = b) := by
  by_cases h : a = b
  · subst h; simp
  · have : ¬ (a : Int) = b := by omega
    simp [h, bne, this]
/-- The first place of x in xs, the length where there is none. -/
def fidx (xs : List Int) (x : Int) : Nat := xs.findIdx (fun y => y == x)
def hasB (xs : List Int) (x : Int) : Bool := decide (fidx xs x < xs.length)
def ixB (xs : List Int) (x : Int) : Int := if fidx xs x < xs.length then (fidx xs x : Int) else -1
theorem fidx_at {xs : List Int} {x : Int} {k : Nat} (hk : k < xs.length) (h : ∀ j, j < k → ¬ gi xs j = x) (he : gi xs k = x) : fidx xs x = k := by
  unfold fidx
  rw [List.findIdx_eq hk]
  have hg : ∀ j (hj : j < xs.length), xs[j] = gi xs j := fun j hj => by unfold gi; rw [List.getD_eq_getElem?_getD, List.getElem?_eq_getElem hj]; rfl
  refine ⟨by rw [hg, he]; simp, fun j hj => ?_⟩
  rw [hg]
  simpa using h j hj
theorem fidx_none {xs : List Int} {x : Int} (h : ∀ j, j < xs.length → ¬ gi xs j = x) : fidx xs x = xs.length := by
  unfold fidx
  rw [List.findIdx_eq_length]
  intro y hy
  obtain ⟨j, hj, rfl⟩ := List.mem_iff_getElem.1 hy
  have := h j hj
  unfold gi at this
  rw [List.getD_eq_getElem?_getD, List.getElem?_eq_getElem hj] at this
  simpa using this
theorem fidx_le (xs : List Int) (x : Int) : fidx xs x ≤ xs.length := List.findIdx_le_length
theorem fidx_spec {xs : List Int} {x : Int} (h : fidx xs x < xs.length) : gi xs (fidx xs x) = x := by
  unfold fidx at h ⊢
  have := List.findIdx_getElem (w := h)
  unfold gi
  rw [List.getD_eq_getElem?_getD, List.getElem?_eq_getElem h]
  simpa using this
theorem fidx_before {xs : List Int} {x : Int} {j : Nat} (h : j < fidx xs x) : ¬ gi xs j = x := by
  have hl : j < xs.length := Nat.lt_of_lt_of_le h (fidx_le xs x)
  unfold fidx at h
  have := List.not_of_lt_findIdx h
  unfold gi
  rw [List.getD_eq_getElem?_getD, List.getElem?_eq_getElem hl]
  simpa using this
theorem hasB_iff (xs : List Int) (x : Int) : hasB xs x = true ↔ x ∈ xs := by
  unfold hasB
  rw [decide_eq_true_eq]
  unfold fidx
  rw [List.findIdx_lt_length]
  constructor
  · rintro ⟨y, hy, he⟩
    have : y = x := by simpa using he
    exact this ▸ hy
  · exact fun h => ⟨x, h, by simp⟩
theorem ixB_found {xs : List Int} {x : Int} {k : Nat} (hk : k < xs.length) (h : ∀ j, j < k → ¬ gi xs j = x) (he : gi xs k = x) : ixB xs x = k := by
  unfold ixB; rw [fidx_at hk h he, if_pos hk]
theorem ixB_none {xs : List Int} {x : Int} (h : ∀ j, j < xs.length → ¬ gi xs j = x) : ixB xs x = -1 := by
  unfold ixB; rw [fidx_none h, if_neg (by omega)]
theorem ixB_has (xs : List Int) (x : Int) : decide (0 ≤ ixB xs x) = hasB xs x := by
  unfold ixB hasB
  by_cases h : fidx xs x < xs.length
  · rw [if_pos h]; simp [h]
  · rw [if_neg h]; simp [h]
theorem ixB_bd (xs : List Int) (x : Int) : -1 ≤ ixB xs x ∧ ixB xs x < xs.length ∨ ixB xs x = -1 := by
  unfold ixB
  split
  · left; omega
  · right; rfl
def thereB (n : Nat) (v : Int) : Bool := inB v 0 ((n : Int) - 1)
def wayL (l : Ls) : List Int := l.stem ++ l.loop ++ [gi l.loop 0]
def edgeB (a : Ar) (u v : Int) : Bool := hasB (gl a.next u.toNat) v
def stepB (a : Ar) (way : List Int) (i : Nat) : Bool := decide (i = 0) || edgeB a (gi way (i - 1)) (gi way i)
def lassoAt (a : Ar) (way : List Int) (i : Nat) : Bool := thereB a.owner.length (gi way i) && stepB a way i
def lenB (l : Ls) : Bool := decide (l.stem.length ≤ 256 ∧ 1 ≤ l.loop.length ∧ l.loop.length ≤ 256)
def lassoB (a : Ar) (l : Ls) : Bool := lenB l && allB (wayL l).length (lassoAt a (wayL l))
theorem gi_app {xs ys : List Int} {k : Nat} (h : k < xs.length) : gi (xs ++ ys) k = gi xs k := by
  unfold gi; rw [List.getD_eq_getElem?_getD, List.getElem?_append_left h]; rfl
theorem gi_app_at {xs : List Int} {y : Int} : gi (xs ++ [y]) xs.length = y := by
  unfold gi; rw [List.getD_eq_getElem?_getD, List.getElem?_append_right (Nat.le_refl _)]; simp
theorem gi_app_r {xs ys : List Int} {n k : Nat} (h : xs.length = n) : gi (xs ++ ys) (n + k) = gi ys k := by
  subst h
  unfold gi; rw [List.getD_eq_getElem?_getD, List.getElem?_append_right (by omega), List.getD_eq_getElem?_getD]
  congr 2
  omega
theorem wayL_len (l : Ls) : (wayL l).length = l.stem.length + l.loop.length + 1 := by unfold wayL; simp; omega
theorem lassoB_len {a : Ar} {l : Ls} (h : ¬ (l.stem.length ≤ 256 ∧ 1 ≤ l.loop.length ∧ l.loop.length ≤ 256)) : lassoB a l = false := by unfold lassoB lenB; rw [decide_eq_false h]; rfl
theorem lassoB_bad {a : Ar} {l : Ls} {k : Nat} (hk : k < (wayL l).length) (h : lassoAt a (wayL l) k = false) : lassoB a l = false := by unfold lassoB; rw [allB_false hk h]; simp
theorem lassoB_ok {a : Ar} {l : Ls} (h : l.stem.length ≤ 256 ∧ 1 ≤ l.loop.length ∧ l.loop.length ≤ 256) (h2 : ∀ k, k < (wayL l).length → lassoAt a (wayL l) k = true) : lassoB a l = true := by
  unfold lassoB lenB; rw [decide_eq_true h, allB_true h2]; rfl
theorem lassoB_len' {a : Ar} {l : Ls} (h : lassoB a l = true) : l.stem.length ≤ 256 ∧ 1 ≤ l.loop.length ∧ l.loop.length ≤ 256 := by
  unfold lassoB at h; rw [Bool.and_eq_true] at h; exact of_decide_eq_true h.1
/-- Both loops of the test have gone through. -/
theorem lassoB_ok2 {a : Ar} {l : Ls} {p r : Nat} (hp : l.stem.length = p) (hr : l.loop.length = r) (h1 : p ≤ 256) (h2 : 1 ≤ r) (h3 : r ≤ 256) (hall : ∀ j, j < p + r → thereB a.owner.length (gi (l.stem ++ l.loop) j) = true)
    (hed : ∀ j, j < p + r → edgeB a (gi (wayL l) j) (gi (wayL l) (j + 1)) = true) : lassoB a l = true := by
  refine lassoB_ok (by omega) fun k hk => ?_
  rw [wayL_len, hp, hr] at hk
  unfold lassoAt stepB
  rw [Bool.and_eq_true, Bool.or_eq_true]
  constructor
  · by_cases hlt : k < p + r
    · have : gi (wayL l) k = gi (l.stem ++ l.loop) k := by unfold wayL; exact gi_app (by rw [List.length_append]; omega)
      rw [this]; exact hall k hlt
    · have hkn : k = p + r := by omega
      have e1 : gi (wayL l) k = gi l.loop 0 := by
        unfold wayL
        have := gi_app_at (xs := l.stem ++ l.loop) (y := gi l.loop 0)
        rw [List.length_append, hp, hr] at this
        rw [hkn]; exact this
      have e2 : gi (l.stem ++ l.loop) (p + 0) = gi l.loop 0 := gi_app_r hp
      rw [e1, ← e2]
      exact hall _ (by omega)
  · by_cases h0 : k = 0
    · left; exact decide_eq_true h0
    · right
      obtain ⟨j, rfl⟩ : ∃ j, k = j + 1 := ⟨k - 1, by omega⟩
      exact hed j (by omega)
theorem lassoB_at {a : Ar} {l : Ls} (h : lassoB a l = true) {k : Nat} (hk : k < (wayL l).length) : thereB a.owner.length (gi (wayL l) k) = true ∧ (k ≠ 0 → edgeB a (gi (wayL l) (k - 1)) (gi (wayL l) k) = true) := by
  unfold lassoB at h
  rw [Bool.and_eq_true] at h
  have := allB_at h.2 hk
  unfold lassoAt stepB at this
  rw [Bool.and_eq_true, Bool.or_eq_true] at this
  refine ⟨this.1, fun hne => ?_⟩
  rcases this.2 with h1 | h1
  · exact absurd (of_decide_eq_true h1) hne
  · exact h1
/-- A valid weighted arena whose costs are at most bd away from 0. -/
structure WOk (a : Wt) (bd : Int) : Prop where
  n1 : 1 ≤ a.a.owner.length
  n24 : a.a.owner.length ≤ 24
  next : a.a.next.length = a.a.owner.length
  cost : a.cost.length = a.a.owner.length
  own : ∀ v, v < a.a.owner.length → 0 ≤ gi a.a.owner v ∧ gi a.a.owner v ≤ 1
  deg : ∀ v, v < a.a.owner.length → 1 ≤ (gl a.a.next v).length ∧ (gl a.a.next v).length ≤ 16
  set_ : ∀ v, v < a.a.owner.length → isSetB (gl a.a.next v) a.a.owner.length = true
  row : ∀ v, v < a.a.owner.length → (gl a.cost v).length = (gl a.a.next v).length
  bd : ∀ v k, v < a.a.owner.length → k < (gl a.cost v).length → -bd ≤ gi (gl a.cost v) k ∧ gi (gl a.cost v) k ≤ bd
theorem wok_of {a : Wt} (h : weightedB a = true) : WOk a 1000 := by
  unfold weightedB at h
  rw [Bool.and_eq_true, Bool.and_eq_true] at h
  obtain ⟨h1, h2, h3⟩ := h
  have h2 := of_decide_eq_true h2
  obtain ⟨k1, k2, k3⟩ := arenaB_len h1
  unfold costsB at h3
  rw [Bool.and_eq_true] at h3
  obtain ⟨h4, h5⟩ := h3
  have h4 := of_decide_eq_true h4
  have hc : ∀ v, v < a.a.owner.length → costAt a v = true := fun v hv => allB_at h5 (by omega)
  refine ⟨k1, h2, k3, by omega, fun v hv => ?_, fun v hv => ?_, fun v hv => (arenaB_at h1 hv).2.2.2.2, fun v hv => ?_, fun v k hv hk => ?_⟩
  · have := arenaB_at h1 hv; omega
  · have := arenaB_at h1 hv; omega
  · have := hc v hv
    unfold costAt at this
    rw [Bool.and_eq_true] at this
    exact of_decide_eq_true this.1
  · have := hc v hv
    unfold costAt at this
    rw [Bool.and_eq_true] at this
    have := allB_at this.2 hk
    unfold inCost at this
    exact of_decide_eq_true this
theorem wok_succ {a : Wt} {bd : Int} (h : WOk a bd) {v k : Nat} (hv : v < a.a.owner.length) (hk : k < (gl a.a.next v).length) : 0 ≤ gi (gl a.a.next v) k ∧ gi (gl a.a.next v) k < a.a.owner.length := by
  have := allB_at (h.set_ v hv) hk
  unfold riseAt at this
  have := of_decide_eq_true this
  exact ⟨this.1, this.2.1⟩
def stepCost (a : Wt) (v : Nat) (u : Int) : Int := gi (gl a.cost v) (fidx (gl a.a.next v) u)
theorem gl_le {xs : List (List Int)} {B : Nat} (h : LnII B xs) (v : Nat) : (gl xs v).length ≤ B := by
  rcases Nat.lt_or_ge v xs.length with hv | hv
  · exact h.2 _ (List.mem_of_getElem? (gl_lt hv))
  · unfold gl; rw [List.getD_eq_getElem?_getD, List.getElem?_eq_none hv]; simp
end Go.Proofs.Ytfmkomllnojkjaa
