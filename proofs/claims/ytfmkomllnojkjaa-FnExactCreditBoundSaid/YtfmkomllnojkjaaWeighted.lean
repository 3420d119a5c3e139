/- Valid weighted arenas: what both sides' tests come to. -/
import Derived.Test.YtfmkomllnojkjaaArena
namespace Go.Proofs.Ytfmkomllnojkjaa
open Go.ChangeShapes Go.WideShapes Go.ChangeAt Go.RowKit
set_option linter.unusedVariables false
set_option linter.unusedSimpArgs false

def inCost (x : Int) : Bool := decide (-1000 ≤ x ∧ x ≤ 1000)
def costAt (w : Wt) (v : Nat) : Bool := decide ((gl w.cost v).length = (gl w.a.next v).length) && allB (gl w.cost v).length (fun k => inCost (gi (gl w.cost v) k))
def costsB (w : Wt) : Bool := decide (w.cost.length = w.a.next.length) && allB w.cost.length (costAt w)
def weightedB (w : Wt) : Bool := arenaB w.a && (decide (w.a.owner.length ≤ 24) && costsB w)

theorem arenaB_len {a : Ar} (h : arenaB a = true) : 1 ≤ a.owner.length ∧ a.owner.length ≤ 256 ∧ a.next.length = a.owner.length := by
  unfold arenaB at h
  rw [Bool.and_eq_true] at h
  exact of_decide_eq_true h.1
theorem arenaB_at {a : Ar} (h : arenaB a = true) {v : Nat} (hv : v < a.owner.length) : 0 ≤ gi a.owner v ∧ gi a.owner v ≤ 1 ∧ 1 ≤ (gl a.next v).length ∧ (gl a.next v).length ≤ 16 ∧ isSetB (gl a.next v) a.owner.length = true := by
  unfold arenaB at h
  rw [Bool.and_eq_true] at h
  have := allB_at h.2 hv
  unfold arenaAt ownAt at this
  rw [Bool.and_eq_true] at this
  have h1 := of_decide_eq_true this.1
  exact ⟨h1.1, h1.2.1, h1.2.2.1, h1.2.2.2, this.2⟩
theorem costsB_false1 {w : Wt} (h : ¬ w.cost.length = w.a.next.length) : costsB w = false := by unfold costsB; rw [decide_eq_false h]; rfl
theorem costsB_false2 {w : Wt} {v : Nat} (hv : v < w.cost.length) (h : costAt w v = false) : costsB w = false := by unfold costsB; rw [allB_false hv h]; simp
theorem costsB_true {w : Wt} (h : w.cost.length = w.a.next.length) (h2 : ∀ v, v < w.cost.length → costAt w v = true) : costsB w = true := by unfold costsB; rw [decide_eq_true h, allB_true h2]; rfl
theorem costAt_false1 {w : Wt} {v : Nat} (h : ¬ (gl w.cost v).length = (gl w.a.next v).length) : costAt w v = false := by unfold costAt; rw [decide_eq_false h]; rfl
theorem costAt_false2 {w : Wt} {v k : Nat} (hk : k < (gl w.cost v).length) (h : inCost (gi (gl w.cost v) k) = false) : costAt w v = false := by unfold costAt; rw [allB_false hk h]; simp
theorem costAt_true {w : Wt} {v : Nat} (h : (gl w.cost v).length = (gl w.a.next v).length) (h2 : ∀ k, k < (gl w.cost v).length → inCost (gi (gl w.cost v) k) = true) : costAt w v = true := by
  unfold costAt; rw [decide_eq_true h, allB_true h2]; rfl
theorem bne_iff (a b : Nat) : ((a : Int) != (b : Int)) = !decide (a = b) := by
  by_cases h : a = b
  · subst h; simp
  · have : ¬ (a : Int) = b := by omega
    simp [h, bne, this]

set_option maxHeartbeats 1000000 in
theorem isWeighted_any {w : World} {A B C : Option Addr} {n c m d l f : Nat} {a : Wt} (h : RI w A n c a.a.owner) (g : RII w B m d a.a.next) (k : RII w C l f a.cost) :
    Calls Try.prog 62 #[.agg #[.slice A n c, .slice B m d, .slice C l f]] w fun e w' => e = .returned (.bool (weightedB a)) ∧ Below w.heap.size w w' := by
  have hle := h.le
  have kle := k.le
  have hlen := Lib.hid h.len
  have glen := Lib.hid g.len
  have klen := Lib.hid k.len
  rcases har : arenaB a.a with _ | _
  · have Har := Lib.hid har
    have hf : weightedB a = false := by unfold weightedB; rw [har]; rfl
    have Hf := Lib.hid hf
    clear har hf
    go_enter Try.func62, Try.ntmps62
    go_wp2_with (go_at_call 107; refine (ArenaOkI_any (h.below (by repeat (first | (with_reducible exact Below.refl _ _) | (with_reducible assumption) | (with_reducible refine Below.drew ?_) | (with_reducible refine below_drewN ?_ _) | ((with_reducible refine Below.setCell ?_ ?_ _); rotate_left; (focus first | omega | (simp; done) | (simp; omega))) | ((with_reducible refine Below.alloc ?_ ?_ _); rotate_left; (focus first | omega | (simp; done) | (simp; omega))) | (refine Below.trans ?_ (Below.mono (by assumption) (by first | omega | (simp; done) | (simp; omega))))))) (g.below (by repeat (first | (with_reducible exact Below.refl _ _) | (with_reducible assumption) | (with_reducible refine Below.drew ?_) | (with_reducible refine below_drewN ?_ _) | ((with_reducible refine Below.setCell ?_ ?_ _); rotate_left; (focus first | omega | (simp; done) | (simp; omega))) | ((with_reducible refine Below.alloc ?_ ?_ _); rotate_left; (focus first | omega | (simp; done) | (simp; omega))) | (refine Below.trans ?_ (Below.mono (by assumption) (by first | omega | (simp; done) | (simp; omega)))))))).mono ?_; rw [Har.out]; rintro e w1 ⟨rfl, hb⟩; have hz := hb.size; (try simp at hz); (try (refine bat_k hb w.heap.size ?_ ?_; (focus first | omega | (simp; done) | (simp; omega)); intro hc0 hf0 hs0)); (try (refine bat_k hb (w.heap.size + 1) ?_ ?_; (focus first | omega | (simp; done) | (simp; omega)); intro hc1 hf1 hs1)))
    go_ret
    exact ⟨ret_bool Hf.out.symm, by repeat (first | (with_reducible exact Below.refl _ _) | (with_reducible assumption) | (with_reducible refine Below.drew ?_) | (with_reducible refine below_drewN ?_ _) | ((with_reducible refine Below.setCell ?_ ?_ _); rotate_left; (focus first | omega | (simp; done) | (simp; omega))) | ((with_reducible refine Below.alloc ?_ ?_ _); rotate_left; (focus first | omega | (simp; done) | (simp; omega))) | (refine Below.trans ?_ (Below.mono (by assumption) (by first | omega | (simp; done) | (simp; omega)))))⟩
  · have Har := Lib.hid har
    have Hal := Lib.hid (arenaB_len har)
    have hmn : m = n := by have := Hal.out; have := hlen.out; have := glen.out; omega
    subst hmn
    by_cases hd : m ≤ 24 ∧ l = m
    · obtain ⟨hd1, rfl⟩ := hd
      have e1 : ((l : Int) != l) = false := by simp
      have hwb : weightedB a = costsB a := by unfold weightedB; rw [har, hlen.out, decide_eq_true hd1]; simp
      have Hwb := Lib.hid hwb
      clear har hwb
      go_enter Try.func62, Try.ntmps62
      go_wp2_with (go_at_call 107; refine (ArenaOkI_any (h.below (by repeat (first | (with_reducible exact Below.refl _ _) | (with_reducible assumption) | (with_reducible refine Below.drew ?_) | (with_reducible refine below_drewN ?_ _) | ((with_reducible refine Below.setCell ?_ ?_ _); rotate_left; (focus first | omega | (simp; done) | (simp; omega))) | ((with_reducible refine Below.alloc ?_ ?_ _); rotate_left; (focus first | omega | (simp; done) | (simp; omega))) | (refine Below.trans ?_ (Below.mono (by assumption) (by first | omega | (simp; done) | (simp; omega))))))) (g.below (by repeat (first | (with_reducible exact Below.refl _ _) | (with_reducible assumption) | (with_reducible refine Below.drew ?_) | (with_reducible refine below_drewN ?_ _) | ((with_reducible refine Below.setCell ?_ ?_ _); rotate_left; (focus first | omega | (simp; done) | (simp; omega))) | ((with_reducible refine Below.alloc ?_ ?_ _); rotate_left; (focus first | omega | (simp; done) | (simp; omega))) | (refine Below.trans ?_ (Below.mono (by assumption) (by first | omega | (simp; done) | (simp; omega)))))))).mono ?_; rw [Har.out]; rintro e w1 ⟨rfl, hb⟩; have hz := hb.size; (try simp at hz); (try (refine bat_k hb w.heap.size ?_ ?_; (focus first | omega | (simp; done) | (simp; omega)); intro hc0 hf0 hs0)); (try (refine bat_k hb (w.heap.size + 1) ?_ ?_; (focus first | omega | (simp; done) | (simp; omega)); intro hc1 hf1 hs1)))
      have h1 := (h.below (below_alloc w (.cells #[.slice A l c, .slice B l d, .slice C l f] 32))).below hb
      have g1 := (g.below (below_alloc w (.cells #[.slice A l c, .slice B l d, .slice C l f] 32))).below hb
      have k1 := (k.below (below_alloc w (.cells #[.slice A l c, .slice B l d, .slice C l f] 32))).below hb
      go_loop [3, 4, 6, 31] (fun _ _ _ i => ∃ v : Nat, v ≤ l ∧ i = .int .i64 v ∧ Hid (∀ j, j < v → costAt a j = true)) (fun _ _ _ i => l - (intOf i).toNat)
      case atStart => exact ⟨0, by omega, rfl, fun j hj => by omega⟩
      case round =>
        obtain ⟨v, hv, rfl, hall⟩ := hrel
        by_cases hlt : v < l
        · obtain ⟨b2, o2, A2, n2, c2, rfl, hb2, hc2, hri2⟩ := g1.at_ hlt
          obtain ⟨b3, o3, A3, n3, c3, rfl, hb3, hc3, hri3⟩ := k1.at_ hlt
          have hn2 := Lib.hid hri2.len
          have hn3 := Lib.hid hri3.len
          have hle3 := hri3.le
          by_cases hrow : n3 = n2
          · subst hrow
            have e2 : ((n3 : Int) != n3) = false := by simp
            go_wp2_with fail
            go_loop [6, 48] (fun _ i => ∃ q : Nat, q ≤ n3 ∧ i = .int .i64 q ∧ Hid (∀ j, j < q → inCost (gi (gl a.cost v) j) = true)) (fun _ i => n3 - (intOf i).toNat)
            case atStart => exact ⟨0, by omega, rfl, fun j hj => by omega⟩
            case round =>
              obtain ⟨q, hq, rfl, hall2⟩ := hrel
              by_cases hlt2 : q < n3
              · obtain ⟨b4, o4, rfl, hb4, _, hc4⟩ := hri3.at_ hlt2
                by_cases hin : -1000 ≤ gi (gl a.cost v) q ∧ gi (gl a.cost v) q ≤ 1000
                · have hok := Lib.hid (show inCost (gi (gl a.cost v) q) = true by unfold inCost; rw [decide_eq_true_eq]; exact hin)
                  obtain ⟨w1, w2⟩ := hin
                  go_wp2_with fail
                  go_round
                  case rel => exact ⟨q + 1, by omega, by go_num, fun j hj => by
                    by_cases hjk : j = q
                    · subst hjk; exact hok.out
                    · exact hall2.out j (by omega)⟩
                  case measure => simp [intOf]; omega
                · have hok : inCost (gi (gl a.cost v) q) = false := by unfold inCost; rw [decide_eq_false_iff_not]; exact hin
                  have hf : costsB a = false := costsB_false2 (v := v) (by rw [klen.out]; exact hlt) (costAt_false2 (k := q) (by rw [hn3.out]; exact hlt2) hok)
                  have Hf := Lib.hid hf
                  have hin2 : gi (gl a.cost v) q < -1000 ∨ (-1000 ≤ gi (gl a.cost v) q ∧ 1000 < gi (gl a.cost v) q) := by omega
                  clear hf hok hin
                  rcases hin2 with w1 | ⟨w1, w2⟩
                  all_goals
                    go_wp2_with fail
                    go_ret
                    exact ⟨ret_bool (by rw [Hwb.out, Hf.out]), by repeat (first | (with_reducible exact Below.refl _ _) | (with_reducible assumption) | (with_reducible refine Below.drew ?_) | (with_reducible refine below_drewN ?_ _) | ((with_reducible refine Below.setCell ?_ ?_ _); rotate_left; (focus first | omega | (simp; done) | (simp; omega))) | ((with_reducible refine Below.alloc ?_ ?_ _); rotate_left; (focus first | omega | (simp; done) | (simp; omega))) | (refine Below.trans ?_ (Below.mono (by assumption) (by first | omega | (simp; done) | (simp; omega)))))⟩
              · have hat := Lib.hid (costAt_true (w := a) (v := v) (by rw [hn2.out, hn3.out]) fun j hj => hall2.out j (by have := hn3.out; omega))
                go_wp2_with fail
                go_round
                case rel => exact ⟨v + 1, by omega, by go_num, fun j hj => by
                  by_cases hjk : j = v
                  · subst hjk; exact hat.out
                  · exact hall.out j (by omega)⟩
                case measure => simp [intOf]; omega
          · have e2 : ((n3 : Int) != n2) = true := by rw [bne_iff]; simpa using hrow
            have hf : costsB a = false := costsB_false2 (v := v) (by rw [klen.out]; exact hlt) (costAt_false1 (by rw [hn2.out, hn3.out]; exact hrow))
            have Hf := Lib.hid hf
            clear hrow hf
            go_wp2_with fail
            go_ret
            exact ⟨ret_bool (by rw [Hwb.out, Hf.out]), by repeat (first | (with_reducible exact Below.refl _ _) | (with_reducible assumption) | (with_reducible refine Below.drew ?_) | (with_reducible refine below_drewN ?_ _) | ((with_reducible refine Below.setCell ?_ ?_ _); rotate_left; (focus first | omega | (simp; done) | (simp; omega))) | ((with_reducible refine Below.alloc ?_ ?_ _); rotate_left; (focus first | omega | (simp; done) | (simp; omega))) | (refine Below.trans ?_ (Below.mono (by assumption) (by first | omega | (simp; done) | (simp; omega)))))⟩
        · have hfin := Lib.hid (costsB_true (w := a) (by rw [klen.out, glen.out]) fun j hj => hall.out j (by have := klen.out; omega))
          go_wp2_with fail
          go_ret
          exact ⟨ret_bool (by rw [Hwb.out, hfin.out]), by repeat (first | (with_reducible exact Below.refl _ _) | (with_reducible assumption) | (with_reducible refine Below.drew ?_) | (with_reducible refine below_drewN ?_ _) | ((with_reducible refine Below.setCell ?_ ?_ _); rotate_left; (focus first | omega | (simp; done) | (simp; omega))) | ((with_reducible refine Below.alloc ?_ ?_ _); rotate_left; (focus first | omega | (simp; done) | (simp; omega))) | (refine Below.trans ?_ (Below.mono (by assumption) (by first | omega | (simp; done) | (simp; omega)))))⟩
    · have hf : weightedB a = false := by
        unfold weightedB costsB
        rw [har, hlen.out, klen.out, glen.out]
        by_cases h1 : m ≤ 24
        · rw [decide_eq_false (p := l = m) (by omega)]; simp
        · rw [decide_eq_false h1]; rfl
      have Hf := Lib.hid hf
      have hd2 : 24 < m ∨ (m ≤ 24 ∧ ((l : Int) != m) = true) := by
        rw [bne_iff]; simp; omega
      clear har hf hd
      rcases hd2 with w1 | ⟨w1, w2⟩
      all_goals
        go_enter Try.func62, Try.ntmps62
        go_wp2_with (go_at_call 107; refine (ArenaOkI_any (h.below (by repeat (first | (with_reducible exact Below.refl _ _) | (with_reducible assumption) | (with_reducible refine Below.drew ?_) | (with_reducible refine below_drewN ?_ _) | ((with_reducible refine Below.setCell ?_ ?_ _); rotate_left; (focus first | omega | (simp; done) | (simp; omega))) | ((with_reducible refine Below.alloc ?_ ?_ _); rotate_left; (focus first | omega | (simp; done) | (simp; omega))) | (refine Below.trans ?_ (Below.mono (by assumption) (by first | omega | (simp; done) | (simp; omega))))))) (g.below (by repeat (first | (with_reducible exact Below.refl _ _) | (with_reducible assumption) | (with_reducible refine Below.drew ?_) | (with_reducible refine below_drewN ?_ _) | ((with_reducible refine Below.setCell ?_ ?_ _); rotate_left; (focus first | omega | (simp; done) | (simp; omega))) | ((with_reducible refine Below.alloc ?_ ?_ _); rotate_left; (focus first | omega | (simp; done) | (simp; omega))) | (refine Below.trans ?_ (Below.mono (by assumption) (by first | omega | (simp; done) | (simp; omega)))))))).mono ?_; rw [Har.out]; rintro e w1 ⟨rfl, hb⟩; have hz := hb.size; (try simp at hz); (try (refine bat_k hb w.heap.size ?_ ?_; (focus first | omega | (simp; done) | (simp; omega)); intro hc0 hf0 hs0)); (try (refine bat_k hb (w.heap.size + 1) ?_ ?_; (focus first | omega | (simp; done) | (simp; omega)); intro hc1 hf1 hs1)))
        go_ret
        exact ⟨ret_bool Hf.out.symm, by repeat (first | (with_reducible exact Below.refl _ _) | (with_reducible assumption) | (with_reducible refine Below.drew ?_) | (with_reducible refine below_drewN ?_ _) | ((with_reducible refine Below.setCell ?_ ?_ _); rotate_left; (focus first | omega | (simp; done) | (simp; omega))) | ((with_reducible refine Below.alloc ?_ ?_ _); rotate_left; (focus first | omega | (simp; done) | (simp; omega))) | (refine Below.trans ?_ (Below.mono (by assumption) (by first | omega | (simp; done) | (simp; omega)))))⟩

set_option maxHeartbeats 1000000 in
theorem l20Costs_any {w : World} {A B C : Option Addr} {n c m d l f : Nat} {a : Wt} (h : RI w A n c a.a.owner) (g : RII w B m d a.a.next) (k : RII w C l f a.cost) :
    Calls Try.prog 59 #[.agg #[.slice A n c, .slice B m d], .slice C l f, .int .i64 1000] w fun e w' => e = .returned (.bool (costsB a)) ∧ Below w.heap.size w w' := by
  have hle := h.le
  have kle := k.le
  have hlen := Lib.hid h.len
  have glen := Lib.hid g.len
  have klen := Lib.hid k.len
  by_cases hd : l = m
  · subst hd
    have e1 : ((l : Int) != l) = false := by simp
    go_enter Try.func59, Try.ntmps59
    go_wp2_with fail
    go_loopw [7] (fun i wr => ∃ v : Nat, v ≤ l ∧ i = .int .i64 v ∧ Hid (∀ j, j < v → costAt a j = true) ∧ Qt (w.alloc (.cells #[.slice A n c, .slice B l d] 30)) wr) (fun i _ => l - (intOf i).toNat)
    case atStart => exact ⟨0, by omega, rfl, (fun j hj => by omega), Qt.refl _⟩
    case round =>
      obtain ⟨v, hv, rfl, hall, jq, rfl⟩ := hrel
      by_cases hlt : v < l
      · obtain ⟨b2, o2, A2, n2, c2, rfl, hb2, hc2, hri2⟩ := g.at_ hlt
        obtain ⟨b3, o3, A3, n3, c3, rfl, hb3, hc3, hri3⟩ := k.at_ hlt
        have hn2 := Lib.hid hri2.len
        have hn3 := Lib.hid hri3.len
        have hle3 := hri3.le
        by_cases hrow : n3 = n2
        · subst hrow
          have e2 : ((n3 : Int) != n3) = false := by simp
          go_wp2_with fail
          go_quiet (fail)
          go_wp2_with fail
          go_loopw [8] (fun i wr => ∃ q : Nat, q ≤ n3 ∧ i = .int .i64 q ∧ Hid (∀ j, j < q → inCost (gi (gl a.cost v) j) = true) ∧ Qt (w.alloc (.cells #[.slice A n c, .slice (some ⟨b2, o2, none⟩) l d] 30)) wr) (fun i _ => n3 - (intOf i).toNat)
          case atStart => exact ⟨0, by omega, rfl, (fun j hj => by omega), Qt.drewN ⟨jq, rfl⟩ _⟩
          case round =>
            clear jq
            obtain ⟨q, hq, rfl, hall2, jq, rfl⟩ := hrel
            by_cases hlt2 : q < n3
            · obtain ⟨b4, o4, rfl, hb4, _, hc4⟩ := hri3.at_ hlt2
              rcases hin : inB (gi (gl a.cost v) q) (-1000) 1000 with _ | _
              · have hf : costsB a = false := costsB_false2 (v := v) (by rw [klen.out]; exact hlt) (costAt_false2 (k := q) (by rw [hn3.out]; exact hlt2) hin)
                have Hf := Lib.hid hf
                have Hin := Lib.hid hin
                clear hf hin
                go_wp2_with (go_at_call 105; refine (l1In_any _ _ _ _).mono ?_; rw [Hin.out]; rintro e w' ⟨rfl, rfl⟩)
                go_ret
                exact ⟨ret_bool (by rw [Hf.out]), by repeat (first | (with_reducible exact Below.refl _ _) | (with_reducible assumption) | (with_reducible refine Below.drew ?_) | (with_reducible refine below_drewN ?_ _) | ((with_reducible refine Below.setCell ?_ ?_ _); rotate_left; (focus first | omega | (simp; done) | (simp; omega))) | ((with_reducible refine Below.alloc ?_ ?_ _); rotate_left; (focus first | omega | (simp; done) | (simp; omega))) | (refine Below.trans ?_ (Below.mono (by assumption) (by first | omega | (simp; done) | (simp; omega)))))⟩
              · have Hin := Lib.hid hin
                clear hin
                go_wp2_with (go_at_call 105; refine (l1In_any _ _ _ _).mono ?_; rw [Hin.out]; rintro e w' ⟨rfl, rfl⟩)
                go_roundw
                case rel => exact ⟨q + 1, by omega, by go_num, (fun j hj => by
                  by_cases hjk : j = q
                  · subst hjk; exact Hin.out
                  · exact hall2.out j (by omega)), _, rfl⟩
                case measure => simp [intOf]; omega
            · have hat := Lib.hid (costAt_true (w := a) (v := v) (by rw [hn2.out, hn3.out]) fun j hj => hall2.out j (by have := hn3.out; omega))
              go_wp2_with fail
              go_roundw
              case rel => exact ⟨v + 1, by omega, by go_num, (fun j hj => by
                by_cases hjk : j = v
                · subst hjk; exact hat.out
                · exact hall.out j (by omega)), _, rfl⟩
              case measure => simp [intOf]; omega
        · have e2 : ((n3 : Int) != n2) = true := by rw [bne_iff]; simpa using hrow
          have hf : costsB a = false := costsB_false2 (v := v) (by rw [klen.out]; exact hlt) (costAt_false1 (by rw [hn2.out, hn3.out]; exact hrow))
          have Hf := Lib.hid hf
          clear hrow hf
          go_wp2_with fail
          go_quiet (fail)
          go_wp2_with fail
          go_ret
          exact ⟨ret_bool (by rw [Hf.out]), by repeat (first | (with_reducible exact Below.refl _ _) | (with_reducible assumption) | (with_reducible refine Below.drew ?_) | (with_reducible refine below_drewN ?_ _) | ((with_reducible refine Below.setCell ?_ ?_ _); rotate_left; (focus first | omega | (simp; done) | (simp; omega))) | ((with_reducible refine Below.alloc ?_ ?_ _); rotate_left; (focus first | omega | (simp; done) | (simp; omega))) | (refine Below.trans ?_ (Below.mono (by assumption) (by first | omega | (simp; done) | (simp; omega)))))⟩
      · have hfin := Lib.hid (costsB_true (w := a) (by rw [klen.out, glen.out]) fun j hj => hall.out j (by have := klen.out; omega))
        go_wp2_with fail
        go_ret
        exact ⟨ret_bool (by rw [hfin.out]), by repeat (first | (with_reducible exact Below.refl _ _) | (with_reducible assumption) | (with_reducible refine Below.drew ?_) | (with_reducible refine below_drewN ?_ _) | ((with_reducible refine Below.setCell ?_ ?_ _); rotate_left; (focus first | omega | (simp; done) | (simp; omega))) | ((with_reducible refine Below.alloc ?_ ?_ _); rotate_left; (focus first | omega | (simp; done) | (simp; omega))) | (refine Below.trans ?_ (Below.mono (by assumption) (by first | omega | (simp; done) | (simp; omega)))))⟩
  · have e1 : ((l : Int) != m) = true := by rw [bne_iff]; simpa using hd
    have hf : costsB a = false := costsB_false1 (by rw [klen.out, glen.out]; exact hd)
    have Hf := Lib.hid hf
    clear hd hf
    go_enter Try.func59, Try.ntmps59
    go_wp2_with fail
    go_ret
    exact ⟨ret_bool (by rw [Hf.out]), by repeat (first | (with_reducible exact Below.refl _ _) | (with_reducible assumption) | (with_reducible refine Below.drew ?_) | (with_reducible refine below_drewN ?_ _) | ((with_reducible refine Below.setCell ?_ ?_ _); rotate_left; (focus first | omega | (simp; done) | (simp; omega))) | ((with_reducible refine Below.alloc ?_ ?_ _); rotate_left; (focus first | omega | (simp; done) | (simp; omega))) | (refine Below.trans ?_ (Below.mono (by assumption) (by first | omega | (simp; done) | (simp; omega)))))⟩

theorem WeightedOkS_any {w : World} {A B C : Option Addr} {n c m d l f : Nat} {a : Wt} (h : RI w A n c a.a.owner) (g : RII w B m d a.a.next) (k : RII w C l f a.cost) :
    Calls Try.prog 16 #[.agg #[.slice A n c, .slice B m d, .slice C l f]] w fun e w' => e = .returned (.bool (weightedB a)) ∧ Below w.heap.size w w' := by
  have hlen := Lib.hid h.len
  rcases har : arenaB a.a with _ | _
  · have Har := Lib.hid har
    have hf : weightedB a = false := by unfold weightedB; rw [har]; rfl
    have Hf := Lib.hid hf
    clear har hf
    go_enter Try.func16, Try.ntmps16
    go_wp2_with (go_at_call 58; refine (ArenaOkS_any (h.below (by repeat (first | (with_reducible exact Below.refl _ _) | (with_reducible assumption) | (with_reducible refine Below.drew ?_) | (with_reducible refine below_drewN ?_ _) | ((with_reducible refine Below.setCell ?_ ?_ _); rotate_left; (focus first | omega | (simp; done) | (simp; omega))) | ((with_reducible refine Below.alloc ?_ ?_ _); rotate_left; (focus first | omega | (simp; done) | (simp; omega))) | (refine Below.trans ?_ (Below.mono (by assumption) (by first | omega | (simp; done) | (simp; omega))))))) (g.below (by repeat (first | (with_reducible exact Below.refl _ _) | (with_reducible assumption) | (with_reducible refine Below.drew ?_) | (with_reducible refine below_drewN ?_ _) | ((with_reducible refine Below.setCell ?_ ?_ _); rotate_left; (focus first | omega | (simp; done) | (simp; omega))) | ((with_reducible refine Below.alloc ?_ ?_ _); rotate_left; (focus first | omega | (simp; done) | (simp; omega))) | (refine Below.trans ?_ (Below.mono (by assumption) (by first | omega | (simp; done) | (simp; omega)))))))).mono ?_; rw [Har.out]; rintro e w1 ⟨rfl, hb⟩; have hz := hb.size; (try simp at hz); (try (refine bat_k hb w.heap.size ?_ ?_; (focus first | omega | (simp; done) | (simp; omega)); intro hc0 hf0 hs0)); (try (refine bat_k hb (w.heap.size + 1) ?_ ?_; (focus first | omega | (simp; done) | (simp; omega)); intro hc1 hf1 hs1)))
    go_ret
    exact ⟨ret_bool Hf.out.symm, by repeat (first | (with_reducible exact Below.refl _ _) | (with_reducible assumption) | (with_reducible refine Below.drew ?_) | (with_reducible refine below_drewN ?_ _) | ((with_reducible refine Below.setCell ?_ ?_ _); rotate_left; (focus first | omega | (simp; done) | (simp; omega))) | ((with_reducible refine Below.alloc ?_ ?_ _); rotate_left; (focus first | omega | (simp; done) | (simp; omega))) | (refine Below.trans ?_ (Below.mono (by assumption) (by first | omega | (simp; done) | (simp; omega)))))⟩
  · have Har := Lib.hid har
    by_cases hn : n ≤ 24
    · have hf : weightedB a = costsB a := by unfold weightedB; rw [har, hlen.out, decide_eq_true hn]; rfl
      have Hf := Lib.hid hf
      clear har hf
      go_enter Try.func16, Try.ntmps16
      go_wp2_with (go_at_call 58; refine (ArenaOkS_any (h.below (by repeat (first | (with_reducible exact Below.refl _ _) | (with_reducible assumption) | (with_reducible refine Below.drew ?_) | (with_reducible refine below_drewN ?_ _) | ((with_reducible refine Below.setCell ?_ ?_ _); rotate_left; (focus first | omega | (simp; done) | (simp; omega))) | ((with_reducible refine Below.alloc ?_ ?_ _); rotate_left; (focus first | omega | (simp; done) | (simp; omega))) | (refine Below.trans ?_ (Below.mono (by assumption) (by first | omega | (simp; done) | (simp; omega))))))) (g.below (by repeat (first | (with_reducible exact Below.refl _ _) | (with_reducible assumption) | (with_reducible refine Below.drew ?_) | (with_reducible refine below_drewN ?_ _) | ((with_reducible refine Below.setCell ?_ ?_ _); rotate_left; (focus first | omega | (simp; done) | (simp; omega))) | ((with_reducible refine Below.alloc ?_ ?_ _); rotate_left; (focus first | omega | (simp; done) | (simp; omega))) | (refine Below.trans ?_ (Below.mono (by assumption) (by first | omega | (simp; done) | (simp; omega)))))))).mono ?_; rw [Har.out]; rintro e w1 ⟨rfl, hb⟩; have hz := hb.size; (try simp at hz); (try (refine bat_k hb w.heap.size ?_ ?_; (focus first | omega | (simp; done) | (simp; omega)); intro hc0 hf0 hs0)); (try (refine bat_k hb (w.heap.size + 1) ?_ ?_; (focus first | omega | (simp; done) | (simp; omega)); intro hc1 hf1 hs1)))
      refine (l20Costs_any (h.below (by repeat (first | (with_reducible exact Below.refl _ _) | (with_reducible assumption) | (with_reducible refine Below.drew ?_) | (with_reducible refine below_drewN ?_ _) | ((with_reducible refine Below.setCell ?_ ?_ _); rotate_left; (focus first | omega | (simp; done) | (simp; omega))) | ((with_reducible refine Below.alloc ?_ ?_ _); rotate_left; (focus first | omega | (simp; done) | (simp; omega))) | (refine Below.trans ?_ (Below.mono (by assumption) (by first | omega | (simp; done) | (simp; omega))))))) (g.below (by repeat (first | (with_reducible exact Below.refl _ _) | (with_reducible assumption) | (with_reducible refine Below.drew ?_) | (with_reducible refine below_drewN ?_ _) | ((with_reducible refine Below.setCell ?_ ?_ _); rotate_left; (focus first | omega | (simp; done) | (simp; omega))) | ((with_reducible refine Below.alloc ?_ ?_ _); rotate_left; (focus first | omega | (simp; done) | (simp; omega))) | (refine Below.trans ?_ (Below.mono (by assumption) (by first | omega | (simp; done) | (simp; omega))))))) (k.below (by repeat (first | (with_reducible exact Below.refl _ _) | (with_reducible assumption) | (with_reducible refine Below.drew ?_) | (with_reducible refine below_drewN ?_ _) | ((with_reducible refine Below.setCell ?_ ?_ _); rotate_left; (focus first | omega | (simp; done) | (simp; omega))) | ((with_reducible refine Below.alloc ?_ ?_ _); rotate_left; (focus first | omega | (simp; done) | (simp; omega))) | (refine Below.trans ?_ (Below.mono (by assumption) (by first | omega | (simp; done) | (simp; omega)))))))).mono ?_
      rintro e w2 ⟨rfl, hb2⟩
      go_wp2_with fail
      go_ret
      exact ⟨ret_bool Hf.out.symm, by repeat (first | (with_reducible exact Below.refl _ _) | (with_reducible assumption) | (with_reducible refine Below.drew ?_) | (with_reducible refine below_drewN ?_ _) | ((with_reducible refine Below.setCell ?_ ?_ _); rotate_left; (focus first | omega | (simp; done) | (simp; omega))) | ((with_reducible refine Below.alloc ?_ ?_ _); rotate_left; (focus first | omega | (simp; done) | (simp; omega))) | (refine Below.trans ?_ (Below.mono (by assumption) (by first | omega | (simp; done) | (simp; omega)))))⟩
    · have hf : weightedB a = false := by unfold weightedB; rw [har, hlen.out, decide_eq_false hn]; rfl
      have Hf := Lib.hid hf
      clear har hf
      go_enter Try.func16, Try.ntmps16
      go_wp2_with (go_at_call 58; refine (ArenaOkS_any (h.below (by repeat (first | (with_reducible exact Below.refl _ _) | (with_reducible assumption) | (with_reducible refine Below.drew ?_) | (with_reducible refine below_drewN ?_ _) | ((with_reducible refine Below.setCell ?_ ?_ _); rotate_left; (focus first | omega | (simp; done) | (simp; omega))) | ((with_reducible refine Below.alloc ?_ ?_ _); rotate_left; (focus first | omega | (simp; done) | (simp; omega))) | (refine Below.trans ?_ (Below.mono (by assumption) (by first | omega | (simp; done) | (simp; omega))))))) (g.below (by repeat (first | (with_reducible exact Below.refl _ _) | (with_reducible assumption) | (with_reducible refine Below.drew ?_) | (with_reducible refine below_drewN ?_ _) | ((with_reducible refine Below.setCell ?_ ?_ _); rotate_left; (focus first | omega | (simp; done) | (simp; omega))) | ((with_reducible refine Below.alloc ?_ ?_ _); rotate_left; (focus first | omega | (simp; done) | (simp; omega))) | (refine Below.trans ?_ (Below.mono (by assumption) (by first | omega | (simp; done) | (simp; omega)))))))).mono ?_; rw [Har.out]; rintro e w1 ⟨rfl, hb⟩; have hz := hb.size; (try simp at hz); (try (refine bat_k hb w.heap.size ?_ ?_; (focus first | omega | (simp; done) | (simp; omega)); intro hc0 hf0 hs0)); (try (refine bat_k hb (w.heap.size + 1) ?_ ?_; (focus first | omega | (simp; done) | (simp; omega)); intro hc1 hf1 hs1)))
      go_ret
      exact ⟨ret_bool Hf.out.symm, by repeat (first | (with_reducible exact Below.refl _ _) | (with_reducible assumption) | (with_reducible refine Below.drew ?_) | (with_reducible refine below_drewN ?_ _) | ((with_reducible refine Below.setCell ?_ ?_ _); rotate_left; (focus first | omega | (simp; done) | (simp; omega))) | ((with_reducible refine Below.alloc ?_ ?_ _); rotate_left; (focus first | omega | (simp; done) | (simp; omega))) | (refine Below.trans ?_ (Below.mono (by assumption) (by first | omega | (simp; done) | (simp; omega)))))⟩

theorem WeightedOkI_any {w : World} {A B C : Option Addr} {n c m d l f : Nat} {a : Wt} (h : RI w A n c a.a.owner) (g : RII w B m d a.a.next) (k : RII w C l f a.cost) :
    Calls Try.prog 18 #[.agg #[.slice A n c, .slice B m d, .slice C l f]] w fun e w' => e = .returned (.bool (weightedB a)) ∧ Below w.heap.size w w' := by
  go_enter Try.func18, Try.ntmps18
  go_wp2_with fail
  refine (isWeighted_any (h.below (by repeat (first | (with_reducible exact Below.refl _ _) | (with_reducible assumption) | (with_reducible refine Below.drew ?_) | (with_reducible refine below_drewN ?_ _) | ((with_reducible refine Below.setCell ?_ ?_ _); rotate_left; (focus first | omega | (simp; done) | (simp; omega))) | ((with_reducible refine Below.alloc ?_ ?_ _); rotate_left; (focus first | omega | (simp; done) | (simp; omega))) | (refine Below.trans ?_ (Below.mono (by assumption) (by first | omega | (simp; done) | (simp; omega))))))) (g.below (by repeat (first | (with_reducible exact Below.refl _ _) | (with_reducible assumption) | (with_reducible refine Below.drew ?_) | (with_reducible refine below_drewN ?_ _) | ((with_reducible refine Below.setCell ?_ ?_ _); rotate_left; (focus first | omega | (simp; done) | (simp; omega))) | ((with_reducible refine Below.alloc ?_ ?_ _); rotate_left; (focus first | omega | (simp; done) | (simp; omega))) | (refine Below.trans ?_ (Below.mono (by assumption) (by first | omega | (simp; done) | (simp; omega))))))) (k.below (by repeat (first | (with_reducible exact Below.refl _ _) | (with_reducible assumption) | (with_reducible refine Below.drew ?_) | (with_reducible refine below_drewN ?_ _) | ((with_reducible refine Below.setCell ?_ ?_ _); rotate_left; (focus first | omega | (simp; done) | (simp; omega))) | ((with_reducible refine Below.alloc ?_ ?_ _); rotate_left; (focus first | omega | (simp; done) | (simp; omega))) | (refine Below.trans ?_ (Below.mono (by assumption) (by first | omega | (simp; done) | (simp; omega)))))))).mono ?_
  rintro e w2 ⟨rfl, hb2⟩
  go_wp2_with fail
  go_ret
  exact ⟨rfl, by repeat (first | (with_reducible exact Below.refl _ _) | (with_reducible assumption) | (with_reducible refine Below.drew ?_) | (with_reducible refine below_drewN ?_ _) | ((with_reducible refine Below.setCell ?_ ?_ _); rotate_left; (focus first | omega | (simp; done) | (simp; omega))) | ((with_reducible refine Below.alloc ?_ ?_ _); rotate_left; (focus first | omega | (simp; done) | (simp; omega))) | (refine Below.trans ?_ (Below.mono (by assumption) (by first | omega | (simp; done) | (simp; omega)))))⟩
end Go.Proofs.Ytfmkomllnojkjaa
