/- The cost of a step, both sides. -/
import Derived.Test.YtfmkomllnojkjaaSmall
namespace Go.Proofs.Ytfmkomllnojkjaa
open Go.ChangeShapes Go.WideShapes Go.ChangeAt Go.RowKit
set_option linter.unusedVariables false
set_option linter.unusedSimpArgs false

/-- A valid weighted arena whose costs are at most bd away from 0. -/
structure WOk (a : Wt) (bd : Int) : Prop where
  n1 : 1 ≤ a.a.owner.length
  n24 : a.a.owner.length ≤ 24
  next : a.a.next.length = a.a.owner.length
  cost : a.cost.length = a.a.owner.length
  own : ∀ v, v < a.a.owner.length → 0 ≤ gi a.a.owner v ∧ gi a.a.owner v ≤ 1
  deg : ∀ v, v < a.a.owner.length → 1 ≤ (gl a.a.next v).length ∧ (gl a.a.next v).length ≤ 16
  set_ : ∀ v, v < a.a.owner.length → isSetB (gl a.a.next v) a.a.owner.length = true
  row : ∀ v, v < a.a.owner.length → (gl a.cost v).length = (gl a.a.next v).length
  bd : ∀ v k, v < a.a.owner.length → k < (gl a.cost v).length → -bd ≤ gi (gl a.cost v) k ∧ gi (gl a.cost v) k ≤ bd

theorem wok_of {a : Wt} (h : weightedB a = true) : WOk a 1000 := by
  unfold weightedB at h
  rw [Bool.and_eq_true, Bool.and_eq_true] at h
  obtain ⟨h1, h2, h3⟩ := h
  have h2 := of_decide_eq_true h2
  obtain ⟨k1, k2, k3⟩ := arenaB_len h1
  unfold costsB at h3
  rw [Bool.and_eq_true] at h3
  obtain ⟨h4, h5⟩ := h3
  have h4 := of_decide_eq_true h4
  have hc : ∀ v, v < a.a.owner.length → costAt a v = true := fun v hv => allB_at h5 (by omega)
  refine ⟨k1, h2, k3, by omega, fun v hv => ?_, fun v hv => ?_, fun v hv => (arenaB_at h1 hv).2.2.2.2, fun v hv => ?_, fun v k hv hk => ?_⟩
  · have := arenaB_at h1 hv; omega
  · have := arenaB_at h1 hv; omega
  · have := hc v hv
    unfold costAt at this
    rw [Bool.and_eq_true] at this
    exact of_decide_eq_true this.1
  · have := hc v hv
    unfold costAt at this
    rw [Bool.and_eq_true] at this
    have := allB_at this.2 hk
    unfold inCost at this
    exact of_decide_eq_true this
theorem wok_succ {a : Wt} {bd : Int} (h : WOk a bd) {v k : Nat} (hv : v < a.a.owner.length) (hk : k < (gl a.a.next v).length) : 0 ≤ gi (gl a.a.next v) k ∧ gi (gl a.a.next v) k < a.a.owner.length := by
  have := allB_at (h.set_ v hv) hk
  unfold setAt at this
  have := of_decide_eq_true this
  exact ⟨this.1, this.2.1⟩

def stepCost (a : Wt) (v : Nat) (u : Int) : Int := gi (gl a.cost v) (fidx (gl a.a.next v) u)
def stepRes (a : Wt) (v : Nat) (u : Int) : Value := if hasB (gl a.a.next v) u then .tuple #[.int .i64 (stepCost a v u), .bool true] else .tuple #[.int .i64 0, .bool false]

theorem l20Cost_any {w : World} {A B C : Option Addr} {n c m d l f : Nat} {a : Wt} {v : Nat} (g : RII w B m d a.a.next) (k : RII w C l f a.cost) (hv : v < m) (hvl : v < l) (hrow : (gl a.cost v).length = (gl a.a.next v).length) (u : Int) :
    Calls Try.prog 66 #[.agg #[.slice A n c, .slice B m d, .slice C l f], .int .i64 (v : Int), .int .i64 u] w fun e w' => e = .returned (stepRes a v u) ∧ Below w.heap.size w w' := by
  have gle := g.le
  obtain ⟨b2, o2, A2, n2, c2, rfl, hb2, hc2, hri2⟩ := g.at_ hv
  obtain ⟨b3, o3, A3, n3, c3, rfl, hb3, hc3, hri3⟩ := k.at_ hvl
  have hle2 := hri2.le
  have hn2 := Lib.hid hri2.len
  have hn3 : n3 = n2 := by have := hri2.len; have := hri3.len; omega
  subst hn3
  clear hrow
  go_enter Try.func66, Try.ntmps66
  go_wp2_with fail
  go_loop [8] (fun i => ∃ q : Nat, q ≤ n3 ∧ i = .int .i64 q ∧ Hid (∀ j, j < q → ¬ gi (gl a.a.next v) j = u)) (fun i => n3 - (intOf i).toNat)
  case atStart => exact ⟨0, by omega, rfl, fun j hj => by omega⟩
  case round =>
    obtain ⟨q, hq, rfl, hall⟩ := hrel
    by_cases hlt : q < n3
    · obtain ⟨b4, o4, rfl, hb4, _, hc4⟩ := hri2.at_ hlt
      obtain ⟨b5, o5, rfl, hb5, _, hc5⟩ := hri3.at_ hlt
      by_cases he : gi (gl a.a.next v) q = u
      · have hf := fidx_at (by rw [hn2.out]; exact hlt) hall.out he
        have hr : stepRes a v u = .tuple #[.int .i64 (gi (gl a.cost v) q), .bool true] := by
          unfold stepRes stepCost hasB
          rw [hf, decide_eq_true (by rw [hn2.out]; exact hlt)]; rfl
        have Hr := Lib.hid hr
        have e1 : (gi (gl a.a.next v) q == u) = true := by simp [he]
        clear he hf hr
        go_wp2_with fail
        go_ret2
        exact ⟨by rw [Hr.out]; rfl, by repeat (first | (with_reducible exact Below.refl _ _) | (with_reducible assumption) | (with_reducible refine Below.drew ?_) | (with_reducible refine below_drewN ?_ _) | ((with_reducible refine Below.setCell ?_ ?_ _); rotate_left; (focus first | omega | (simp; done) | (simp; omega))) | ((with_reducible refine Below.alloc ?_ ?_ _); rotate_left; (focus first | omega | (simp; done) | (simp; omega))) | (refine Below.trans ?_ (Below.mono (by assumption) (by first | omega | (simp; done) | (simp; omega)))))⟩
      · have e1 : (gi (gl a.a.next v) q == u) = false := by simpa using he
        have Hr := Lib.hid he
        clear he
        go_wp2_with fail
        go_round
        case rel => exact ⟨q + 1, by omega, by go_num, fun j hj => by
          by_cases hjk : j = q
          · subst hjk; exact Hr.out
          · exact hall.out j (by omega)⟩
        case measure => simp [intOf]; omega
    · have hr : stepRes a v u = .tuple #[.int .i64 0, .bool false] := by
        have hf := fidx_none (xs := gl a.a.next v) (x := u) fun j hj => hall.out j (by have := hn2.out; omega)
        unfold stepRes hasB
        rw [hf, decide_eq_false (by omega)]; rfl
      have Hr := Lib.hid hr
      clear hr
      go_wp2_with fail
      go_ret2
      exact ⟨by rw [Hr.out]; rfl, by repeat (first | (with_reducible exact Below.refl _ _) | (with_reducible assumption) | (with_reducible refine Below.drew ?_) | (with_reducible refine below_drewN ?_ _) | ((with_reducible refine Below.setCell ?_ ?_ _); rotate_left; (focus first | omega | (simp; done) | (simp; omega))) | ((with_reducible refine Below.alloc ?_ ?_ _); rotate_left; (focus first | omega | (simp; done) | (simp; omega))) | (refine Below.trans ?_ (Below.mono (by assumption) (by first | omega | (simp; done) | (simp; omega)))))⟩

/-- What CostOf comes to. -/
def costRes (a : Wt) (v u : Int) : Value := if weightedB a && thereB a.a.owner.length v then stepRes a v.toNat u else .tuple #[.int .i64 0, .bool false]
def Got (w : World) (v : Value) (e : Ending) (w' : World) : Prop := e = .returned v ∧ Below w.heap.size w w'

theorem stepRes_cases (a : Wt) (v : Nat) (u : Int) : (∃ x, stepRes a v u = .tuple #[.int .i64 x, .bool true]) ∨ stepRes a v u = .tuple #[.int .i64 0, .bool false] := by
  unfold stepRes
  rcases h : hasB (gl a.a.next v) u with _ | _
  · right; rfl
  · left; exact ⟨_, rfl⟩

theorem CostOfS_any {w : World} {A B C : Option Addr} {n c m d l f : Nat} {a : Wt} (h : RI w A n c a.a.owner) (g : RII w B m d a.a.next) (k : RII w C l f a.cost) (v u : Int) :
    Calls Try.prog 20 #[.agg #[.slice A n c, .slice B m d, .slice C l f], .int .i64 v, .int .i64 u] w (Got w (costRes a v u)) := by
  have hle := h.le
  have hlen := Lib.hid h.len
  rcases hw : weightedB a with _ | _
  · have hr : costRes a v u = .tuple #[.int .i64 0, .bool false] := by unfold costRes; rw [hw]; rfl
    have Hr := Lib.hid hr
    have Hw := Lib.hid hw
    clear hr hw
    go_enter Try.func20, Try.ntmps20
    go_wp2_with (go_at_call 16; refine (WeightedOkS_any (h.below (by repeat (first | (with_reducible exact Below.refl _ _) | (with_reducible assumption) | (with_reducible refine Below.drew ?_) | (with_reducible refine below_drewN ?_ _) | ((with_reducible refine Below.setCell ?_ ?_ _); rotate_left; (focus first | omega | (simp; done) | (simp; omega))) | ((with_reducible refine Below.alloc ?_ ?_ _); rotate_left; (focus first | omega | (simp; done) | (simp; omega))) | (refine Below.trans ?_ (Below.mono (by assumption) (by first | omega | (simp; done) | (simp; omega))))))) (g.below (by repeat (first | (with_reducible exact Below.refl _ _) | (with_reducible assumption) | (with_reducible refine Below.drew ?_) | (with_reducible refine below_drewN ?_ _) | ((with_reducible refine Below.setCell ?_ ?_ _); rotate_left; (focus first | omega | (simp; done) | (simp; omega))) | ((with_reducible refine Below.alloc ?_ ?_ _); rotate_left; (focus first | omega | (simp; done) | (simp; omega))) | (refine Below.trans ?_ (Below.mono (by assumption) (by first | omega | (simp; done) | (simp; omega))))))) (k.below (by repeat (first | (with_reducible exact Below.refl _ _) | (with_reducible assumption) | (with_reducible refine Below.drew ?_) | (with_reducible refine below_drewN ?_ _) | ((with_reducible refine Below.setCell ?_ ?_ _); rotate_left; (focus first | omega | (simp; done) | (simp; omega))) | ((with_reducible refine Below.alloc ?_ ?_ _); rotate_left; (focus first | omega | (simp; done) | (simp; omega))) | (refine Below.trans ?_ (Below.mono (by assumption) (by first | omega | (simp; done) | (simp; omega)))))))).mono ?_; rw [Hw.out]; rintro e w1 ⟨rfl, hb⟩; have hz := hb.size; (try simp at hz); (try (refine bat_k hb w.heap.size ?_ ?_; (focus first | omega | (simp; done) | (simp; omega)); intro hc0 hf0 hs0)); (try (refine bat_k hb (w.heap.size + 1) ?_ ?_; (focus first | omega | (simp; done) | (simp; omega)); intro hc1 hf1 hs1)))
    go_ret2
    exact ⟨by rw [Hr.out]; rfl, by repeat (first | (with_reducible exact Below.refl _ _) | (with_reducible assumption) | (with_reducible refine Below.drew ?_) | (with_reducible refine below_drewN ?_ _) | ((with_reducible refine Below.setCell ?_ ?_ _); rotate_left; (focus first | omega | (simp; done) | (simp; omega))) | ((with_reducible refine Below.alloc ?_ ?_ _); rotate_left; (focus first | omega | (simp; done) | (simp; omega))) | (refine Below.trans ?_ (Below.mono (by assumption) (by first | omega | (simp; done) | (simp; omega)))))⟩
  · have hok := wok_of hw
    have Hw := Lib.hid hw
    rcases ht : thereB n v with _ | _
    · have hr : costRes a v u = .tuple #[.int .i64 0, .bool false] := by unfold costRes; rw [hw, hlen.out, ht]; rfl
      have Hr := Lib.hid hr
      have Ht := Lib.hid ht
      clear hr hw ht hok
      go_enter Try.func20, Try.ntmps20
      go_wp2_with (first
        | (go_at_call 16; refine (WeightedOkS_any (h.below (by repeat (first | (with_reducible exact Below.refl _ _) | (with_reducible assumption) | (with_reducible refine Below.drew ?_) | (with_reducible refine below_drewN ?_ _) | ((with_reducible refine Below.setCell ?_ ?_ _); rotate_left; (focus first | omega | (simp; done) | (simp; omega))) | ((with_reducible refine Below.alloc ?_ ?_ _); rotate_left; (focus first | omega | (simp; done) | (simp; omega))) | (refine Below.trans ?_ (Below.mono (by assumption) (by first | omega | (simp; done) | (simp; omega))))))) (g.below (by repeat (first | (with_reducible exact Below.refl _ _) | (with_reducible assumption) | (with_reducible refine Below.drew ?_) | (with_reducible refine below_drewN ?_ _) | ((with_reducible refine Below.setCell ?_ ?_ _); rotate_left; (focus first | omega | (simp; done) | (simp; omega))) | ((with_reducible refine Below.alloc ?_ ?_ _); rotate_left; (focus first | omega | (simp; done) | (simp; omega))) | (refine Below.trans ?_ (Below.mono (by assumption) (by first | omega | (simp; done) | (simp; omega))))))) (k.below (by repeat (first | (with_reducible exact Below.refl _ _) | (with_reducible assumption) | (with_reducible refine Below.drew ?_) | (with_reducible refine below_drewN ?_ _) | ((with_reducible refine Below.setCell ?_ ?_ _); rotate_left; (focus first | omega | (simp; done) | (simp; omega))) | ((with_reducible refine Below.alloc ?_ ?_ _); rotate_left; (focus first | omega | (simp; done) | (simp; omega))) | (refine Below.trans ?_ (Below.mono (by assumption) (by first | omega | (simp; done) | (simp; omega)))))))).mono ?_; rw [Hw.out]; rintro e w1 ⟨rfl, hb⟩; have hz := hb.size; (try simp at hz); (try (refine bat_k hb w.heap.size ?_ ?_; (focus first | omega | (simp; done) | (simp; omega)); intro hc0 hf0 hs0)); (try (refine bat_k hb (w.heap.size + 1) ?_ ?_; (focus first | omega | (simp; done) | (simp; omega)); intro hc1 hf1 hs1)))
        | (go_at_call 65; refine (l1There_any hle _).mono ?_; rw [Ht.out]; rintro e w1 ⟨rfl, hb⟩; have hz := hb.size; (try simp at hz); (try (refine bat_k hb w.heap.size ?_ ?_; (focus first | omega | (simp; done) | (simp; omega)); intro hc0 hf0 hs0)); (try (refine bat_k hb (w.heap.size + 1) ?_ ?_; (focus first | omega | (simp; done) | (simp; omega)); intro hc1 hf1 hs1))))
      go_ret2
      exact ⟨by rw [Hr.out]; rfl, by repeat (first | (with_reducible exact Below.refl _ _) | (with_reducible assumption) | (with_reducible refine Below.drew ?_) | (with_reducible refine below_drewN ?_ _) | ((with_reducible refine Below.setCell ?_ ?_ _); rotate_left; (focus first | omega | (simp; done) | (simp; omega))) | ((with_reducible refine Below.alloc ?_ ?_ _); rotate_left; (focus first | omega | (simp; done) | (simp; omega))) | (refine Below.trans ?_ (Below.mono (by assumption) (by first | omega | (simp; done) | (simp; omega)))))⟩
    · have hr : costRes a v u = stepRes a v.toNat u := by unfold costRes; rw [hw, hlen.out, ht]; rfl
      have Hr := Lib.hid hr
      have Ht := Lib.hid ht
      have hb := inB_true ht
      obtain ⟨v, rfl⟩ := Int.eq_ofNat_of_zero_le hb.1
      rw [Int.toNat_natCast] at hr
      have Hr := Lib.hid hr
      have hvn : v < n := by omega
      have hm : m = n := by have := g.len; have := hok.next; have := hlen.out; omega
      have hl : l = n := by have := k.len; have := hok.cost; have := hlen.out; omega
      have hrow := hok.row v (by rw [hlen.out]; exact hvn)
      subst hm
      subst hl
      clear hr hw ht hok hb
      rcases stepRes_cases a v u with ⟨x, hx⟩ | hx
      all_goals
        have Hx := Lib.hid hx
        clear hx
        go_enter Try.func20, Try.ntmps20
        go_wp2_with (first
          | (go_at_call 16; refine (WeightedOkS_any (h.below (by repeat (first | (with_reducible exact Below.refl _ _) | (with_reducible assumption) | (with_reducible refine Below.drew ?_) | (with_reducible refine below_drewN ?_ _) | ((with_reducible refine Below.setCell ?_ ?_ _); rotate_left; (focus first | omega | (simp; done) | (simp; omega))) | ((with_reducible refine Below.alloc ?_ ?_ _); rotate_left; (focus first | omega | (simp; done) | (simp; omega))) | (refine Below.trans ?_ (Below.mono (by assumption) (by first | omega | (simp; done) | (simp; omega))))))) (g.below (by repeat (first | (with_reducible exact Below.refl _ _) | (with_reducible assumption) | (with_reducible refine Below.drew ?_) | (with_reducible refine below_drewN ?_ _) | ((with_reducible refine Below.setCell ?_ ?_ _); rotate_left; (focus first | omega | (simp; done) | (simp; omega))) | ((with_reducible refine Below.alloc ?_ ?_ _); rotate_left; (focus first | omega | (simp; done) | (simp; omega))) | (refine Below.trans ?_ (Below.mono (by assumption) (by first | omega | (simp; done) | (simp; omega))))))) (k.below (by repeat (first | (with_reducible exact Below.refl _ _) | (with_reducible assumption) | (with_reducible refine Below.drew ?_) | (with_reducible refine below_drewN ?_ _) | ((with_reducible refine Below.setCell ?_ ?_ _); rotate_left; (focus first | omega | (simp; done) | (simp; omega))) | ((with_reducible refine Below.alloc ?_ ?_ _); rotate_left; (focus first | omega | (simp; done) | (simp; omega))) | (refine Below.trans ?_ (Below.mono (by assumption) (by first | omega | (simp; done) | (simp; omega)))))))).mono ?_; rw [Hw.out]; rintro e w1 ⟨rfl, hb⟩; have hz := hb.size; (try simp at hz); (try (refine bat_k hb w.heap.size ?_ ?_; (focus first | omega | (simp; done) | (simp; omega)); intro hc0 hf0 hs0)); (try (refine bat_k hb (w.heap.size + 1) ?_ ?_; (focus first | omega | (simp; done) | (simp; omega)); intro hc1 hf1 hs1)))
          | (go_at_call 65; refine (l1There_any hle _).mono ?_; rw [Ht.out]; rintro e w1 ⟨rfl, hb⟩; have hz := hb.size; (try simp at hz); (try (refine bat_k hb w.heap.size ?_ ?_; (focus first | omega | (simp; done) | (simp; omega)); intro hc0 hf0 hs0)); (try (refine bat_k hb (w.heap.size + 1) ?_ ?_; (focus first | omega | (simp; done) | (simp; omega)); intro hc1 hf1 hs1)))
          | (go_at_call 66; refine (l20Cost_any (g.below (by repeat (first | (with_reducible exact Below.refl _ _) | (with_reducible assumption) | (with_reducible refine Below.drew ?_) | (with_reducible refine below_drewN ?_ _) | ((with_reducible refine Below.setCell ?_ ?_ _); rotate_left; (focus first | omega | (simp; done) | (simp; omega))) | ((with_reducible refine Below.alloc ?_ ?_ _); rotate_left; (focus first | omega | (simp; done) | (simp; omega))) | (refine Below.trans ?_ (Below.mono (by assumption) (by first | omega | (simp; done) | (simp; omega))))))) (k.below (by repeat (first | (with_reducible exact Below.refl _ _) | (with_reducible assumption) | (with_reducible refine Below.drew ?_) | (with_reducible refine below_drewN ?_ _) | ((with_reducible refine Below.setCell ?_ ?_ _); rotate_left; (focus first | omega | (simp; done) | (simp; omega))) | ((with_reducible refine Below.alloc ?_ ?_ _); rotate_left; (focus first | omega | (simp; done) | (simp; omega))) | (refine Below.trans ?_ (Below.mono (by assumption) (by first | omega | (simp; done) | (simp; omega))))))) hvn hvn hrow _).mono ?_; rw [Hx.out]; rintro e w1 ⟨rfl, hb⟩; have hz := hb.size; (try simp at hz); (try (refine bat_k hb w.heap.size ?_ ?_; (focus first | omega | (simp; done) | (simp; omega)); intro hc0 hf0 hs0)); (try (refine bat_k hb (w.heap.size + 1) ?_ ?_; (focus first | omega | (simp; done) | (simp; omega)); intro hc1 hf1 hs1))))
        go_ret2
        exact ⟨by rw [Hr.out, Hx.out]; rfl, by repeat (first | (with_reducible exact Below.refl _ _) | (with_reducible assumption) | (with_reducible refine Below.drew ?_) | (with_reducible refine below_drewN ?_ _) | ((with_reducible refine Below.setCell ?_ ?_ _); rotate_left; (focus first | omega | (simp; done) | (simp; omega))) | ((with_reducible refine Below.alloc ?_ ?_ _); rotate_left; (focus first | omega | (simp; done) | (simp; omega))) | (refine Below.trans ?_ (Below.mono (by assumption) (by first | omega | (simp; done) | (simp; omega)))))⟩

theorem Index_has {w : World} {A : Option Addr} {n c : Nat} {xs : List Int} (h : RI w A n c xs) (x : Int) {q : Nat} (hq : fidx xs x = q) (hlt : q < n) :
    Calls Try.prog 68 #[.slice A n c, .int .i64 x] w fun e w' => e = .returned (.int .i64 (q : Int)) ∧ w = w' := by
  have hr : ixB xs x = (q : Int) := by unfold ixB; rw [hq, if_pos (by rw [h.len]; exact hlt)]
  rw [← hr]
  exact Index_any h x
theorem Index_not {w : World} {A : Option Addr} {n c : Nat} {xs : List Int} (h : RI w A n c xs) (x : Int) (hq : hasB xs x = false) :
    Calls Try.prog 68 #[.slice A n c, .int .i64 x] w fun e w' => e = .returned (.int .i64 (-1)) ∧ w = w' := by
  have hr : ixB xs x = -1 := by unfold ixB; unfold hasB at hq; rw [if_neg (of_decide_eq_false hq)]
  rw [← hr]
  exact Index_any h x

theorem costOf_any {w : World} {A B C : Option Addr} {n c m d l f : Nat} {a : Wt} {v : Nat} (g : RII w B m d a.a.next) (k : RII w C l f a.cost) (hv : v < m) (hvl : v < l) (hrow : (gl a.cost v).length = (gl a.a.next v).length) (u : Int)
    (hu : hasB (gl a.a.next v) u = true) :
    Calls Try.prog 85 #[.agg #[.slice A n c, .slice B m d, .slice C l f], .int .i64 (v : Int), .int .i64 u] w fun e w' => e = .returned (.int .i64 (stepCost a v u)) ∧ Below w.heap.size w w' := by
  obtain ⟨b2, o2, A2, n2, c2, rfl, hb2, hc2, hri2⟩ := g.at_ hv
  obtain ⟨b3, o3, A3, n3, c3, rfl, hb3, hc3, hri3⟩ := k.at_ hvl
  have hn3 : n3 = n2 := by have := hri2.len; have := hri3.len; omega
  subst hn3
  unfold stepCost
  generalize hq : fidx (gl a.a.next v) u = q
  have hlt : q < n3 := by unfold hasB at hu; have := of_decide_eq_true hu; have := hri2.len; omega
  have Hq := Lib.hid hq
  obtain ⟨b5, o5, rfl, hb5, _, hc5⟩ := hri3.at_ hlt
  clear hrow hq hu
  go_enter Try.func85, Try.ntmps85
  go_wp2_with fail
  go_quiet ((go_at_call 68; exact Calls.quiet_of_same ((Index_has (hri2.below (by repeat (first | (with_reducible exact Below.refl _ _) | (with_reducible assumption) | (with_reducible refine Below.drew ?_) | (with_reducible refine below_drewN ?_ _) | ((with_reducible refine Below.setCell ?_ ?_ _); rotate_left; (focus first | omega | (simp; done) | (simp; omega))) | ((with_reducible refine Below.alloc ?_ ?_ _); rotate_left; (focus first | omega | (simp; done) | (simp; omega))) | (refine Below.trans ?_ (Below.mono (by assumption) (by first | omega | (simp; done) | (simp; omega))))))) _ Hq.out hlt).mono fun _ _ ⟨a, b⟩ => ⟨a, b.symm⟩)))
  go_wp2_with fail
  go_ret
  exact ⟨rfl, by repeat (first | (with_reducible exact Below.refl _ _) | (with_reducible assumption) | (with_reducible refine Below.drew ?_) | (with_reducible refine below_drewN ?_ _) | ((with_reducible refine Below.setCell ?_ ?_ _); rotate_left; (focus first | omega | (simp; done) | (simp; omega))) | ((with_reducible refine Below.alloc ?_ ?_ _); rotate_left; (focus first | omega | (simp; done) | (simp; omega))) | (refine Below.trans ?_ (Below.mono (by assumption) (by first | omega | (simp; done) | (simp; omega)))))⟩

theorem CostOfI_any {w : World} {A B C : Option Addr} {n c m d l f : Nat} {a : Wt} (h : RI w A n c a.a.owner) (g : RII w B m d a.a.next) (k : RII w C l f a.cost) (v u : Int) :
    Calls Try.prog 21 #[.agg #[.slice A n c, .slice B m d, .slice C l f], .int .i64 v, .int .i64 u] w (Got w (costRes a v u)) := by
  have hle := h.le
  have hlen := Lib.hid h.len
  rcases hw : weightedB a with _ | _
  · have hr : costRes a v u = .tuple #[.int .i64 0, .bool false] := by unfold costRes; rw [hw]; rfl
    have Hr := Lib.hid hr
    have Hw := Lib.hid hw
    clear hr hw
    go_enter Try.func21, Try.ntmps21
    go_wp2_with (go_at_call 62; refine (isWeighted_any (h.below (by repeat (first | (with_reducible exact Below.refl _ _) | (with_reducible assumption) | (with_reducible refine Below.drew ?_) | (with_reducible refine below_drewN ?_ _) | ((with_reducible refine Below.setCell ?_ ?_ _); rotate_left; (focus first | omega | (simp; done) | (simp; omega))) | ((with_reducible refine Below.alloc ?_ ?_ _); rotate_left; (focus first | omega | (simp; done) | (simp; omega))) | (refine Below.trans ?_ (Below.mono (by assumption) (by first | omega | (simp; done) | (simp; omega))))))) (g.below (by repeat (first | (with_reducible exact Below.refl _ _) | (with_reducible assumption) | (with_reducible refine Below.drew ?_) | (with_reducible refine below_drewN ?_ _) | ((with_reducible refine Below.setCell ?_ ?_ _); rotate_left; (focus first | omega | (simp; done) | (simp; omega))) | ((with_reducible refine Below.alloc ?_ ?_ _); rotate_left; (focus first | omega | (simp; done) | (simp; omega))) | (refine Below.trans ?_ (Below.mono (by assumption) (by first | omega | (simp; done) | (simp; omega))))))) (k.below (by repeat (first | (with_reducible exact Below.refl _ _) | (with_reducible assumption) | (with_reducible refine Below.drew ?_) | (with_reducible refine below_drewN ?_ _) | ((with_reducible refine Below.setCell ?_ ?_ _); rotate_left; (focus first | omega | (simp; done) | (simp; omega))) | ((with_reducible refine Below.alloc ?_ ?_ _); rotate_left; (focus first | omega | (simp; done) | (simp; omega))) | (refine Below.trans ?_ (Below.mono (by assumption) (by first | omega | (simp; done) | (simp; omega)))))))).mono ?_; rw [Hw.out]; rintro e w1 ⟨rfl, hb⟩; have hz := hb.size; (try simp at hz); (try (refine bat_k hb w.heap.size ?_ ?_; (focus first | omega | (simp; done) | (simp; omega)); intro hc0 hf0 hs0)); (try (refine bat_k hb (w.heap.size + 1) ?_ ?_; (focus first | omega | (simp; done) | (simp; omega)); intro hc1 hf1 hs1)))
    go_ret2
    exact ⟨by rw [Hr.out]; rfl, by repeat (first | (with_reducible exact Below.refl _ _) | (with_reducible assumption) | (with_reducible refine Below.drew ?_) | (with_reducible refine below_drewN ?_ _) | ((with_reducible refine Below.setCell ?_ ?_ _); rotate_left; (focus first | omega | (simp; done) | (simp; omega))) | ((with_reducible refine Below.alloc ?_ ?_ _); rotate_left; (focus first | omega | (simp; done) | (simp; omega))) | (refine Below.trans ?_ (Below.mono (by assumption) (by first | omega | (simp; done) | (simp; omega)))))⟩
  · have hok := wok_of hw
    have Hw := Lib.hid hw
    rcases ht : thereB n v with _ | _
    · have hr : costRes a v u = .tuple #[.int .i64 0, .bool false] := by unfold costRes; rw [hw, hlen.out, ht]; rfl
      have Hr := Lib.hid hr
      have Ht := Lib.hid ht
      clear hr hw ht hok
      go_enter Try.func21, Try.ntmps21
      go_wp2_with (first
        | (go_at_call 62; refine (isWeighted_any (h.below (by repeat (first | (with_reducible exact Below.refl _ _) | (with_reducible assumption) | (with_reducible refine Below.drew ?_) | (with_reducible refine below_drewN ?_ _) | ((with_reducible refine Below.setCell ?_ ?_ _); rotate_left; (focus first | omega | (simp; done) | (simp; omega))) | ((with_reducible refine Below.alloc ?_ ?_ _); rotate_left; (focus first | omega | (simp; done) | (simp; omega))) | (refine Below.trans ?_ (Below.mono (by assumption) (by first | omega | (simp; done) | (simp; omega))))))) (g.below (by repeat (first | (with_reducible exact Below.refl _ _) | (with_reducible assumption) | (with_reducible refine Below.drew ?_) | (with_reducible refine below_drewN ?_ _) | ((with_reducible refine Below.setCell ?_ ?_ _); rotate_left; (focus first | omega | (simp; done) | (simp; omega))) | ((with_reducible refine Below.alloc ?_ ?_ _); rotate_left; (focus first | omega | (simp; done) | (simp; omega))) | (refine Below.trans ?_ (Below.mono (by assumption) (by first | omega | (simp; done) | (simp; omega))))))) (k.below (by repeat (first | (with_reducible exact Below.refl _ _) | (with_reducible assumption) | (with_reducible refine Below.drew ?_) | (with_reducible refine below_drewN ?_ _) | ((with_reducible refine Below.setCell ?_ ?_ _); rotate_left; (focus first | omega | (simp; done) | (simp; omega))) | ((with_reducible refine Below.alloc ?_ ?_ _); rotate_left; (focus first | omega | (simp; done) | (simp; omega))) | (refine Below.trans ?_ (Below.mono (by assumption) (by first | omega | (simp; done) | (simp; omega)))))))).mono ?_; rw [Hw.out]; rintro e w1 ⟨rfl, hb⟩; have hz := hb.size; (try simp at hz); (try (refine bat_k hb w.heap.size ?_ ?_; (focus first | omega | (simp; done) | (simp; omega)); intro hc0 hf0 hs0)); (try (refine bat_k hb (w.heap.size + 1) ?_ ?_; (focus first | omega | (simp; done) | (simp; omega)); intro hc1 hf1 hs1)))
        | (go_at_call 67; refine (hasVertex_any _).mono ?_; rw [Ht.out]; rintro e w1 ⟨rfl, hb⟩; have hz := hb.size; (try simp at hz); (try (refine bat_k hb w.heap.size ?_ ?_; (focus first | omega | (simp; done) | (simp; omega)); intro hc0 hf0 hs0)); (try (refine bat_k hb (w.heap.size + 1) ?_ ?_; (focus first | omega | (simp; done) | (simp; omega)); intro hc1 hf1 hs1))))
      go_ret2
      exact ⟨by rw [Hr.out]; rfl, by repeat (first | (with_reducible exact Below.refl _ _) | (with_reducible assumption) | (with_reducible refine Below.drew ?_) | (with_reducible refine below_drewN ?_ _) | ((with_reducible refine Below.setCell ?_ ?_ _); rotate_left; (focus first | omega | (simp; done) | (simp; omega))) | ((with_reducible refine Below.alloc ?_ ?_ _); rotate_left; (focus first | omega | (simp; done) | (simp; omega))) | (refine Below.trans ?_ (Below.mono (by assumption) (by first | omega | (simp; done) | (simp; omega)))))⟩
    · have hr : costRes a v u = stepRes a v.toNat u := by unfold costRes; rw [hw, hlen.out, ht]; rfl
      have Ht := Lib.hid ht
      have hb := inB_true ht
      obtain ⟨v, rfl⟩ := Int.eq_ofNat_of_zero_le hb.1
      rw [Int.toNat_natCast] at hr
      have Hr := Lib.hid hr
      have hvn : v < n := by omega
      have hm : m = n := by have := g.len; have := hok.next; have := hlen.out; omega
      have hl : l = n := by have := k.len; have := hok.cost; have := hlen.out; omega
      have hrow := hok.row v (by rw [hlen.out]; exact hvn)
      subst hm
      subst hl
      clear hr hw ht hok hb
      obtain ⟨b2, o2, A2, n2, c2, rfl, hb2, hc2, hri2⟩ := g.at_ hvn
      obtain ⟨b3, o3, A3, n3, c3, rfl, hb3, hc3, hri3⟩ := k.at_ hvn
      have hn3 : n3 = n2 := by have := hri2.len; have := hri3.len; omega
      subst hn3
      clear hrow
      rcases hu : hasB (gl a.a.next v) u with _ | _
      · have Hu := Lib.hid hu
        have hx : stepRes a v u = .tuple #[.int .i64 0, .bool false] := by unfold stepRes; rw [hu]; rfl
        have Hx := Lib.hid hx
        clear hx hu
        go_enter Try.func21, Try.ntmps21
        go_wp2_with (first
          | (go_at_call 62; refine (isWeighted_any (h.below (by repeat (first | (with_reducible exact Below.refl _ _) | (with_reducible assumption) | (with_reducible refine Below.drew ?_) | (with_reducible refine below_drewN ?_ _) | ((with_reducible refine Below.setCell ?_ ?_ _); rotate_left; (focus first | omega | (simp; done) | (simp; omega))) | ((with_reducible refine Below.alloc ?_ ?_ _); rotate_left; (focus first | omega | (simp; done) | (simp; omega))) | (refine Below.trans ?_ (Below.mono (by assumption) (by first | omega | (simp; done) | (simp; omega))))))) (g.below (by repeat (first | (with_reducible exact Below.refl _ _) | (with_reducible assumption) | (with_reducible refine Below.drew ?_) | (with_reducible refine below_drewN ?_ _) | ((with_reducible refine Below.setCell ?_ ?_ _); rotate_left; (focus first | omega | (simp; done) | (simp; omega))) | ((with_reducible refine Below.alloc ?_ ?_ _); rotate_left; (focus first | omega | (simp; done) | (simp; omega))) | (refine Below.trans ?_ (Below.mono (by assumption) (by first | omega | (simp; done) | (simp; omega))))))) (k.below (by repeat (first | (with_reducible exact Below.refl _ _) | (with_reducible assumption) | (with_reducible refine Below.drew ?_) | (with_reducible refine below_drewN ?_ _) | ((with_reducible refine Below.setCell ?_ ?_ _); rotate_left; (focus first | omega | (simp; done) | (simp; omega))) | ((with_reducible refine Below.alloc ?_ ?_ _); rotate_left; (focus first | omega | (simp; done) | (simp; omega))) | (refine Below.trans ?_ (Below.mono (by assumption) (by first | omega | (simp; done) | (simp; omega)))))))).mono ?_; rw [Hw.out]; rintro e w1 ⟨rfl, hb⟩; have hz := hb.size; (try simp at hz); (try (refine bat_k hb w.heap.size ?_ ?_; (focus first | omega | (simp; done) | (simp; omega)); intro hc0 hf0 hs0)); (try (refine bat_k hb (b2) ?_ ?_; (focus first | omega | (simp; done) | (simp; omega)); intro hc1 hf1 hs1)); (try (refine bat_k hb (b3) ?_ ?_; (focus first | omega | (simp; done) | (simp; omega)); intro hc2 hf2 hs2)))
          | (go_at_call 67; refine (hasVertex_any _).mono ?_; rw [Ht.out]; rintro e w1 ⟨rfl, hb⟩; have hz := hb.size; (try simp at hz); (try (refine bat_k hb w.heap.size ?_ ?_; (focus first | omega | (simp; done) | (simp; omega)); intro hc0 hf0 hs0)); (try (refine bat_k hb (b2) ?_ ?_; (focus first | omega | (simp; done) | (simp; omega)); intro hc1 hf1 hs1)); (try (refine bat_k hb (b3) ?_ ?_; (focus first | omega | (simp; done) | (simp; omega)); intro hc2 hf2 hs2)))
          | (go_at_call 68; refine (Index_not (hri2.below (by repeat (first | (with_reducible exact Below.refl _ _) | (with_reducible assumption) | (with_reducible refine Below.drew ?_) | (with_reducible refine below_drewN ?_ _) | ((with_reducible refine Below.setCell ?_ ?_ _); rotate_left; (focus first | omega | (simp; done) | (simp; omega))) | ((with_reducible refine Below.alloc ?_ ?_ _); rotate_left; (focus first | omega | (simp; done) | (simp; omega))) | (refine Below.trans ?_ (Below.mono (by assumption) (by first | omega | (simp; done) | (simp; omega))))))) _ Hu.out).mono ?_; rintro e w1 ⟨rfl, rfl⟩))
        go_ret2
        exact ⟨by rw [Hr.out, Hx.out]; rfl, by repeat (first | (with_reducible exact Below.refl _ _) | (with_reducible assumption) | (with_reducible refine Below.drew ?_) | (with_reducible refine below_drewN ?_ _) | ((with_reducible refine Below.setCell ?_ ?_ _); rotate_left; (focus first | omega | (simp; done) | (simp; omega))) | ((with_reducible refine Below.alloc ?_ ?_ _); rotate_left; (focus first | omega | (simp; done) | (simp; omega))) | (refine Below.trans ?_ (Below.mono (by assumption) (by first | omega | (simp; done) | (simp; omega)))))⟩
      · have Hu := Lib.hid hu
        generalize hq : fidx (gl a.a.next v) u = q at *
        have hlt : q < n3 := by unfold hasB at hu; have := of_decide_eq_true hu; have := hri2.len; omega
        have hx : stepRes a v u = .tuple #[.int .i64 (gi (gl a.cost v) q), .bool true] := by unfold stepRes stepCost; rw [hu, hq]; rfl
        have Hx := Lib.hid hx
        have Hq := Lib.hid hq
        obtain ⟨b5, o5, rfl, hb5, _, hc5⟩ := hri3.at_ hlt
        clear hx hu hq
        go_enter Try.func21, Try.ntmps21
        go_wp2_with (first
          | (go_at_call 62; refine (isWeighted_any (h.below (by repeat (first | (with_reducible exact Below.refl _ _) | (with_reducible assumption) | (with_reducible refine Below.drew ?_) | (with_reducible refine below_drewN ?_ _) | ((with_reducible refine Below.setCell ?_ ?_ _); rotate_left; (focus first | omega | (simp; done) | (simp; omega))) | ((with_reducible refine Below.alloc ?_ ?_ _); rotate_left; (focus first | omega | (simp; done) | (simp; omega))) | (refine Below.trans ?_ (Below.mono (by assumption) (by first | omega | (simp; done) | (simp; omega))))))) (g.below (by repeat (first | (with_reducible exact Below.refl _ _) | (with_reducible assumption) | (with_reducible refine Below.drew ?_) | (with_reducible refine below_drewN ?_ _) | ((with_reducible refine Below.setCell ?_ ?_ _); rotate_left; (focus first | omega | (simp; done) | (simp; omega))) | ((with_reducible refine Below.alloc ?_ ?_ _); rotate_left; (focus first | omega | (simp; done) | (simp; omega))) | (refine Below.trans ?_ (Below.mono (by assumption) (by first | omega | (simp; done) | (simp; omega))))))) (k.below (by repeat (first | (with_reducible exact Below.refl _ _) | (with_reducible assumption) | (with_reducible refine Below.drew ?_) | (with_reducible refine below_drewN ?_ _) | ((with_reducible refine Below.setCell ?_ ?_ _); rotate_left; (focus first | omega | (simp; done) | (simp; omega))) | ((with_reducible refine Below.alloc ?_ ?_ _); rotate_left; (focus first | omega | (simp; done) | (simp; omega))) | (refine Below.trans ?_ (Below.mono (by assumption) (by first | omega | (simp; done) | (simp; omega)))))))).mono ?_; rw [Hw.out]; rintro e w1 ⟨rfl, hb⟩; have hz := hb.size; (try simp at hz); (try (refine bat_k hb w.heap.size ?_ ?_; (focus first | omega | (simp; done) | (simp; omega)); intro hc0 hf0 hs0)); (try (refine bat_k hb (b2) ?_ ?_; (focus first | omega | (simp; done) | (simp; omega)); intro hc1 hf1 hs1)); (try (refine bat_k hb (b3) ?_ ?_; (focus first | omega | (simp; done) | (simp; omega)); intro hc2 hf2 hs2)); (try (refine bat_k hb (b5) ?_ ?_; (focus first | omega | (simp; done) | (simp; omega)); intro hc3 hf3 hs3)))
          | (go_at_call 67; refine (hasVertex_any _).mono ?_; rw [Ht.out]; rintro e w1 ⟨rfl, hb⟩; have hz := hb.size; (try simp at hz); (try (refine bat_k hb w.heap.size ?_ ?_; (focus first | omega | (simp; done) | (simp; omega)); intro hc0 hf0 hs0)); (try (refine bat_k hb (b2) ?_ ?_; (focus first | omega | (simp; done) | (simp; omega)); intro hc1 hf1 hs1)); (try (refine bat_k hb (b3) ?_ ?_; (focus first | omega | (simp; done) | (simp; omega)); intro hc2 hf2 hs2)); (try (refine bat_k hb (b5) ?_ ?_; (focus first | omega | (simp; done) | (simp; omega)); intro hc3 hf3 hs3)))
          | (go_at_call 68; refine (Index_has (hri2.below (by repeat (first | (with_reducible exact Below.refl _ _) | (with_reducible assumption) | (with_reducible refine Below.drew ?_) | (with_reducible refine below_drewN ?_ _) | ((with_reducible refine Below.setCell ?_ ?_ _); rotate_left; (focus first | omega | (simp; done) | (simp; omega))) | ((with_reducible refine Below.alloc ?_ ?_ _); rotate_left; (focus first | omega | (simp; done) | (simp; omega))) | (refine Below.trans ?_ (Below.mono (by assumption) (by first | omega | (simp; done) | (simp; omega))))))) _ Hq.out hlt).mono ?_; rintro e w1 ⟨rfl, rfl⟩))
        go_ret2
        exact ⟨by rw [Hr.out, Hx.out]; rfl, by repeat (first | (with_reducible exact Below.refl _ _) | (with_reducible assumption) | (with_reducible refine Below.drew ?_) | (with_reducible refine below_drewN ?_ _) | ((with_reducible refine Below.setCell ?_ ?_ _); rotate_left; (focus first | omega | (simp; done) | (simp; omega))) | ((with_reducible refine Below.alloc ?_ ?_ _); rotate_left; (focus first | omega | (simp; done) | (simp; omega))) | (refine Below.trans ?_ (Below.mono (by assumption) (by first | omega | (simp; done) | (simp; omega)))))⟩
end Go.Proofs.Ytfmkomllnojkjaa
