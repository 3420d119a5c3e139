/- Small functions of both sides: Index, Contains, size, hasVertex, l1There, and the cost of a step. -/
import Derived.Test.YtfmkomllnojkjaaWeighted
namespace Go.Proofs.Ytfmkomllnojkjaa
open Go.ChangeShapes Go.WideShapes Go.ChangeAt Go.RowKit
set_option linter.unusedVariables false
set_option linter.unusedSimpArgs false

/-- The first place of x in xs, the length where there is none. -/
def fidx (xs : List Int) (x : Int) : Nat := xs.findIdx (fun y => y == x)
def hasB (xs : List Int) (x : Int) : Bool := decide (fidx xs x < xs.length)
def ixB (xs : List Int) (x : Int) : Int := if fidx xs x < xs.length then (fidx xs x : Int) else -1
theorem fidx_at {xs : List Int} {x : Int} {k : Nat} (hk : k < xs.length) (h : ∀ j, j < k → ¬ gi xs j = x) (he : gi xs k = x) : fidx xs x = k := by
  unfold fidx
  rw [List.findIdx_eq hk]
  have hg : ∀ j (hj : j < xs.length), xs[j] = gi xs j := fun j hj => by unfold gi; rw [List.getD_eq_getElem?_getD, List.getElem?_eq_getElem hj]; rfl
  refine ⟨by rw [hg, he]; simp, fun j hj => ?_⟩
  rw [hg]
  simpa using h j hj
theorem fidx_none {xs : List Int} {x : Int} (h : ∀ j, j < xs.length → ¬ gi xs j = x) : fidx xs x = xs.length := by
  unfold fidx
  rw [List.findIdx_eq_length]
  intro y hy
  obtain ⟨j, hj, rfl⟩ := List.mem_iff_getElem.1 hy
  have := h j hj
  unfold gi at this
  rw [List.getD_eq_getElem?_getD, List.getElem?_eq_getElem hj] at this
  simpa using this
theorem fidx_le (xs : List Int) (x : Int) : fidx xs x ≤ xs.length := List.findIdx_le_length
theorem fidx_spec {xs : List Int} {x : Int} (h : fidx xs x < xs.length) : gi xs (fidx xs x) = x := by
  unfold fidx at h ⊢
  have := List.findIdx_getElem (w := h)
  unfold gi
  rw [List.getD_eq_getElem?_getD, List.getElem?_eq_getElem h]
  simpa using this
theorem fidx_before {xs : List Int} {x : Int} {j : Nat} (h : j < fidx xs x) : ¬ gi xs j = x := by
  have hl : j < xs.length := Nat.lt_of_lt_of_le h (fidx_le xs x)
  unfold fidx at h
  have := List.not_of_lt_findIdx h
  unfold gi
  rw [List.getD_eq_getElem?_getD, List.getElem?_eq_getElem hl]
  simpa using this
theorem hasB_iff (xs : List Int) (x : Int) : hasB xs x = true ↔ x ∈ xs := by
  unfold hasB
  rw [decide_eq_true_eq]
  unfold fidx
  rw [List.findIdx_lt_length]
  constructor
  · rintro ⟨y, hy, he⟩
    have : y = x := by simpa using he
    exact this ▸ hy
  · exact fun h => ⟨x, h, by simp⟩
theorem ixB_found {xs : List Int} {x : Int} {k : Nat} (hk : k < xs.length) (h : ∀ j, j < k → ¬ gi xs j = x) (he : gi xs k = x) : ixB xs x = k := by
  unfold ixB; rw [fidx_at hk h he, if_pos hk]
theorem ixB_none {xs : List Int} {x : Int} (h : ∀ j, j < xs.length → ¬ gi xs j = x) : ixB xs x = -1 := by
  unfold ixB; rw [fidx_none h, if_neg (by omega)]
theorem ixB_has (xs : List Int) (x : Int) : decide (0 ≤ ixB xs x) = hasB xs x := by
  unfold ixB hasB
  by_cases h : fidx xs x < xs.length
  · rw [if_pos h]; simp [h]
  · rw [if_neg h]; simp [h]
theorem ixB_bd (xs : List Int) (x : Int) : -1 ≤ ixB xs x ∧ ixB xs x < xs.length ∨ ixB xs x = -1 := by
  unfold ixB
  split
  · left; omega
  · right; rfl

theorem Index_any {w : World} {A : Option Addr} {n c : Nat} {xs : List Int} (h : RI w A n c xs) (x : Int) :
    Calls Try.prog 68 #[.slice A n c, .int .i64 x] w fun e w' => e = .returned (.int .i64 (ixB xs x)) ∧ w = w' := by
  have hle := h.le
  have hlen := Lib.hid h.len
  go_enter Try.func68, Try.ntmps68
  go_wp2_with fail
  go_loop [8] (fun i => ∃ k : Nat, k ≤ n ∧ i = .int .i64 k ∧ Hid (∀ j, j < k → ¬ gi xs j = x)) (fun i => n - (intOf i).toNat)
  case atStart => exact ⟨0, by omega, rfl, fun j hj => by omega⟩
  case round =>
    obtain ⟨k, hk, rfl, hall⟩ := hrel
    by_cases hlt : k < n
    · obtain ⟨b, o, rfl, hb, _, hc⟩ := h.at_ hlt
      by_cases he : gi xs k = x
      · have Hr := Lib.hid (ixB_found (by rw [hlen.out]; exact hlt) hall.out he)
        have e1 : (x == gi xs k) = true := by simp [he]
        clear he
        go_wp2_with fail
        go_ret
        exact ⟨ret_int Hr.out.symm, rfl⟩
      · have e1 : (x == gi xs k) = false := by simp; intro h; exact he h.symm
        have Hr := Lib.hid he
        clear he
        go_wp2_with fail
        go_round
        case rel => exact ⟨k + 1, by omega, by go_num, fun j hj => by
          by_cases hjk : j = k
          · subst hjk; exact Hr.out
          · exact hall.out j (by omega)⟩
        case measure => simp [intOf]; omega
    · have Hr := Lib.hid (ixB_none (xs := xs) (x := x) fun j hj => hall.out j (by have := hlen.out; omega))
      go_wp2_with fail
      go_ret
      exact ⟨ret_int Hr.out.symm, rfl⟩

theorem Contains_any {w : World} {A : Option Addr} {n c : Nat} {xs : List Int} (h : RI w A n c xs) (x : Int) :
    Calls Try.prog 113 #[.slice A n c, .int .i64 x] w fun e w' => e = .returned (.bool (hasB xs x)) ∧ w = w' := by
  go_enter Try.func113, Try.ntmps113
  go_wp2_with (go_at_call 68; refine (Index_any h _).mono ?_; rintro e w1 ⟨rfl, rfl⟩)
  go_ret
  exact ⟨ret_bool (ixB_has xs x), rfl⟩

theorem size_any {w : World} {A B : Option Addr} {n c m d : Nat} :
    Calls Try.prog 108 #[.agg #[.slice A n c, .slice B m d]] w fun e w' => e = .returned (.int .i64 n) ∧ Below w.heap.size w w' := by
  go_enter Try.func108, Try.ntmps108
  go_wp2_with fail
  go_ret
  exact ⟨rfl, by repeat (first | (with_reducible exact Below.refl _ _) | (with_reducible assumption) | (with_reducible refine Below.drew ?_) | (with_reducible refine below_drewN ?_ _) | ((with_reducible refine Below.setCell ?_ ?_ _); rotate_left; (focus first | omega | (simp; done) | (simp; omega))) | ((with_reducible refine Below.alloc ?_ ?_ _); rotate_left; (focus first | omega | (simp; done) | (simp; omega))) | (refine Below.trans ?_ (Below.mono (by assumption) (by first | omega | (simp; done) | (simp; omega)))))⟩

def thereB (n : Nat) (v : Int) : Bool := inB v 0 ((n : Int) - 1)

theorem hasVertex_any {w : World} {A B : Option Addr} {n c m d : Nat} (v : Int) :
    Calls Try.prog 67 #[.agg #[.slice A n c, .slice B m d], .int .i64 v] w fun e w' => e = .returned (.bool (thereB n v)) ∧ Below w.heap.size w w' := by
  by_cases h0 : 0 ≤ v
  · go_enter Try.func67, Try.ntmps67
    go_wp2_with (go_at_call 108; refine size_any.mono ?_; rintro e w1 ⟨rfl, hb⟩; have hz := hb.size; (try simp at hz); (try (refine bat_k hb w.heap.size ?_ ?_; (focus first | omega | (simp; done) | (simp; omega)); intro hc0 hf0 hs0)); (try (refine bat_k hb (w.heap.size + 1) ?_ ?_; (focus first | omega | (simp; done) | (simp; omega)); intro hc1 hf1 hs1)))
    go_ret
    exact ⟨ret_bool (by unfold thereB inB; rw [Bool.eq_iff_iff]; simp; omega), by repeat (first | (with_reducible exact Below.refl _ _) | (with_reducible assumption) | (with_reducible refine Below.drew ?_) | (with_reducible refine below_drewN ?_ _) | ((with_reducible refine Below.setCell ?_ ?_ _); rotate_left; (focus first | omega | (simp; done) | (simp; omega))) | ((with_reducible refine Below.alloc ?_ ?_ _); rotate_left; (focus first | omega | (simp; done) | (simp; omega))) | (refine Below.trans ?_ (Below.mono (by assumption) (by first | omega | (simp; done) | (simp; omega)))))⟩
  · go_enter Try.func67, Try.ntmps67
    go_wp2_with fail
    go_ret
    exact ⟨ret_bool (by unfold thereB inB; rw [Bool.eq_iff_iff]; simp; omega), by repeat (first | (with_reducible exact Below.refl _ _) | (with_reducible assumption) | (with_reducible refine Below.drew ?_) | (with_reducible refine below_drewN ?_ _) | ((with_reducible refine Below.setCell ?_ ?_ _); rotate_left; (focus first | omega | (simp; done) | (simp; omega))) | ((with_reducible refine Below.alloc ?_ ?_ _); rotate_left; (focus first | omega | (simp; done) | (simp; omega))) | (refine Below.trans ?_ (Below.mono (by assumption) (by first | omega | (simp; done) | (simp; omega)))))⟩

theorem l1There_any {w : World} {A B : Option Addr} {n c m d : Nat} (hn : n ≤ 9223372036854775807) (v : Int) :
    Calls Try.prog 65 #[.agg #[.slice A n c, .slice B m d], .int .i64 v] w fun e w' => e = .returned (.bool (thereB n v)) ∧ Below w.heap.size w w' := by
  go_enter Try.func65, Try.ntmps65
  go_wp2_with (go_at_call 105; refine (l1In_any _ _ _ _).mono ?_; rintro e w1 ⟨rfl, rfl⟩)
  go_ret
  exact ⟨rfl, by repeat (first | (with_reducible exact Below.refl _ _) | (with_reducible assumption) | (with_reducible refine Below.drew ?_) | (with_reducible refine below_drewN ?_ _) | ((with_reducible refine Below.setCell ?_ ?_ _); rotate_left; (focus first | omega | (simp; done) | (simp; omega))) | ((with_reducible refine Below.alloc ?_ ?_ _); rotate_left; (focus first | omega | (simp; done) | (simp; omega))) | (refine Below.trans ?_ (Below.mono (by assumption) (by first | omega | (simp; done) | (simp; omega)))))⟩
end Go.Proofs.Ytfmkomllnojkjaa
