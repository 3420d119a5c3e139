/- Valid arenas and weighted arenas: what both sides' tests come to. -/
import Derived.Test.YtfmkomllnojkjaaTiny
import Derived.Test.YtfmkomllnojkjaaRead
namespace Go.Proofs.Ytfmkomllnojkjaa
open Go.ChangeShapes Go.WideShapes Go.ChangeAt Go.RowKit
set_option linter.unusedVariables false
set_option linter.unusedSimpArgs false

def allB (n : Nat) (p : Nat → Bool) : Bool := (List.range n).all p
theorem allB_true {n : Nat} {p : Nat → Bool} (h : ∀ k, k < n → p k = true) : allB n p = true := by
  unfold allB; rw [List.all_eq_true]; intro k hk; exact h k (List.mem_range.1 hk)
theorem allB_false {n k : Nat} {p : Nat → Bool} (hk : k < n) (h : p k = false) : allB n p = false := by
  unfold allB; rw [List.all_eq_false]; exact ⟨k, List.mem_range.2 hk, by simp [h]⟩
theorem allB_at {n k : Nat} {p : Nat → Bool} (h : allB n p = true) (hk : k < n) : p k = true := by
  unfold allB at h; rw [List.all_eq_true] at h; exact h k (List.mem_range.2 hk)

def setAt (xs : List Int) (n : Int) (k : Nat) : Bool := decide (0 ≤ gi xs k ∧ gi xs k < n ∧ (k = 0 ∨ gi xs (k - 1) < gi xs k))
def isSetB (xs : List Int) (n : Int) : Bool := allB xs.length (setAt xs n)

theorem set_ge {xs : List Int} {n : Int} (h : isSetB xs n = true) : ∀ k, k < xs.length → (k : Int) ≤ gi xs k := by
  intro k
  induction k with
  | zero =>
    intro hk
    have := allB_at h hk
    unfold setAt at this
    have := of_decide_eq_true this
    omega
  | succ k ih =>
    intro hk
    have h1 := ih (by omega)
    have := allB_at h hk
    unfold setAt at this
    have := of_decide_eq_true this
    simp at this
    omega
theorem set_len {xs : List Int} {n : Int} (h : isSetB xs n = true) (h0 : 0 ≤ n) : (xs.length : Int) ≤ n := by
  rcases Nat.eq_zero_or_pos xs.length with h1 | h1
  · omega
  · have h2 := set_ge h (xs.length - 1) (by omega)
    have h3 := allB_at h (k := xs.length - 1) (by omega)
    unfold setAt at h3
    have h3 := of_decide_eq_true h3
    omega

theorem isSet_any {w : World} {A : Option Addr} {n c : Nat} {xs : List Int} (h : RI w A n c xs) (m : Int) :
    Calls Try.prog 127 #[.slice A n c, .int .i64 m] w fun e w' => e = .returned (.bool (isSetB xs m)) ∧ w = w' := by
  have hle := h.le
  have hlen := Lib.hid h.len
  go_enter Try.func127, Try.ntmps127
  go_wp2
  go_loop [5, 6, 9] (fun _ _ i => ∃ k : Nat, k ≤ n ∧ i = .int .i64 k ∧ Hid (∀ j, j < k → setAt xs m j = true)) (fun _ _ i => n - (intOf i).toNat)
  case atStart => exact ⟨0, by omega, rfl, fun j hj => by omega⟩
  case round =>
    obtain ⟨k, hk, rfl, hall⟩ := hrel
    by_cases hlt : k < n
    · obtain ⟨b, o, rfl, hb, hcs, hc⟩ := h.at_ hlt
      have hp : 0 < k → w.cell? ⟨b, o + (k - 1), none⟩ = some (.int .i64 (gi xs (k - 1))) := fun h0 => hcs (k - 1) (by omega)
      clear hcs
      go_wp2
      all_goals first
        | (go_ret; exact ⟨ret_bool (allB_false (by rw [hlen.out]; exact hlt) (by unfold setAt; rw [decide_eq_false_iff_not]; omega)).symm, rfl⟩)
        | (go_round
           case rel => exact ⟨k + 1, by omega, by go_num, fun j hj => by
             by_cases hjk : j = k
             · subst hjk; unfold setAt; rw [decide_eq_true_eq]; omega
             · exact hall.out j (by omega)⟩
           case measure => simp [intOf]; omega)
    · have hfin := Lib.hid (allB_true (p := setAt xs m) (n := xs.length) fun j hj => hall.out j (by have := hlen.out; omega))
      go_wp2
      go_ret
      exact ⟨ret_bool hfin.out.symm, rfl⟩

theorem l1Rises_any {w : World} {A : Option Addr} {n c : Nat} {xs : List Int} (h : RI w A n c xs) (m : Int) (h0 : -9223372036854775807 ≤ m) (h1 : m ≤ 9223372036854775807) :
    Calls Try.prog 126 #[.slice A n c, .int .i64 m] w fun e w' => e = .returned (.bool (isSetB xs m)) ∧ Qt w w' := by
  have hle := h.le
  have hlen := Lib.hid h.len
  go_enter Try.func126, Try.ntmps126
  go_wp2
  go_loopw [5] (fun i wr => ∃ k : Nat, k ≤ n ∧ i = .int .i64 k ∧ Hid (∀ j, j < k → setAt xs m j = true) ∧ Qt w wr) (fun i _ => n - (intOf i).toNat)
  case atStart => exact ⟨0, by omega, rfl, fun j hj => by omega, Qt.refl _⟩
  case round =>
    obtain ⟨k, hk, rfl, hall, hq⟩ := hrel
    by_cases hlt : k < n
    · obtain ⟨b, o, rfl, hb, hcs, hc⟩ := (h.qt hq).at_ hlt
      obtain ⟨r1, r2⟩ := h.i64_at hlt
      by_cases hin : 0 ≤ gi xs k ∧ gi xs k < m
      · have hin1 : inB (gi xs k) 0 (m - 1) = true := by unfold inB; simp; omega
        by_cases hk0 : 0 < k
        · have hp : wr.cell? ⟨b, o + (k - 1), none⟩ = some (.int .i64 (gi xs (k - 1))) := hcs (k - 1) (by omega)
          clear hcs
          have hd : decide (0 < k) = true := by simpa using hk0
          go_wp2
          go_quiet ((go_at_call 105; exact Calls.quiet_of_same ((l1In_any _ _ _ _).mono fun _ _ ⟨a, b⟩ => ⟨a, b.symm⟩)))
          go_wp2
          all_goals first
            | (go_ret; exact ⟨ret_bool (allB_false (by rw [hlen.out]; exact hlt) (by unfold setAt; rw [decide_eq_false_iff_not]; omega)).symm, hq.drewN _⟩)
            | (go_roundw
               case rel => exact ⟨k + 1, by omega, by go_num, fun j hj => by
                 by_cases hjk : j = k
                 · subst hjk; unfold setAt; rw [decide_eq_true_eq]; omega
                 · exact hall.out j (by omega), hq.drewN _⟩
               case measure => simp [intOf]; omega)
        · clear hcs
          have hd : decide (0 < k) = false := by simpa using hk0
          go_wp2
          go_quiet ((go_at_call 105; exact Calls.quiet_of_same ((l1In_any _ _ _ _).mono fun _ _ ⟨a, b⟩ => ⟨a, b.symm⟩)))
          go_wp2
          all_goals first
            | (go_ret; exact ⟨ret_bool (allB_false (by rw [hlen.out]; exact hlt) (by unfold setAt; rw [decide_eq_false_iff_not]; omega)).symm, hq.drewN _⟩)
            | (go_roundw
               case rel => exact ⟨k + 1, by omega, by go_num, fun j hj => by
                 by_cases hjk : j = k
                 · subst hjk; unfold setAt; rw [decide_eq_true_eq]; omega
                 · exact hall.out j (by omega), hq.drewN _⟩
               case measure => simp [intOf]; omega)
      · have hin1 : inB (gi xs k) 0 (m - 1) = false := by unfold inB; simp; omega
        clear hcs
        go_wp2
        go_quiet ((go_at_call 105; exact Calls.quiet_of_same ((l1In_any _ _ _ _).mono fun _ _ ⟨a, b⟩ => ⟨a, b.symm⟩)))
        go_wp2
        all_goals first
          | (go_ret; exact ⟨ret_bool (allB_false (by rw [hlen.out]; exact hlt) (by unfold setAt; rw [decide_eq_false_iff_not]; omega)).symm, hq.drewN _⟩)
          | (go_roundw
             case rel => exact ⟨k + 1, by omega, by go_num, fun j hj => by
               by_cases hjk : j = k
               · subst hjk; unfold setAt; rw [decide_eq_true_eq]; omega
               · exact hall.out j (by omega), hq.drewN _⟩
             case measure => simp [intOf]; omega)
    · have hfin := Lib.hid (allB_true (p := setAt xs m) (n := xs.length) fun j hj => hall.out j (by have := hlen.out; omega))
      go_wp2
      go_ret
      exact ⟨ret_bool hfin.out.symm, hq⟩

theorem l1Set_any {w : World} {A : Option Addr} {n c : Nat} {xs : List Int} (h : RI w A n c xs) (m : Int) (h0 : 0 ≤ m) (h1 : m ≤ 9223372036854775807) :
    Calls Try.prog 106 #[.slice A n c, .int .i64 m] w fun e w' => e = .returned (.bool (isSetB xs m)) ∧ Qt w w' := by
  have hle := h.le
  have hlen := Lib.hid h.len
  by_cases hc : (n : Int) ≤ m
  · go_enter Try.func106, Try.ntmps106
    go_wp2_with (go_at_call 126; refine (l1Rises_any h _ (by omega) (by omega)).mono ?_; rintro e w1 ⟨rfl, hq⟩)
    go_ret
    exact ⟨rfl, hq⟩
  · have hf : isSetB xs m = false := by
      rcases hb : isSetB xs m with _ | _
      · rfl
      · have := set_len hb h0; have := hlen.out; omega
    have Hf := Lib.hid hf
    clear hf
    go_enter Try.func106, Try.ntmps106
    go_wp2
    go_ret
    exact ⟨ret_bool Hf.out.symm, Qt.refl _⟩

structure Ar where
  owner : List Int
  next : List (List Int)
structure Wt where
  a : Ar
  cost : List (List Int)

def ownAt (a : Ar) (v : Nat) : Bool := decide (0 ≤ gi a.owner v ∧ gi a.owner v ≤ 1 ∧ 1 ≤ (gl a.next v).length ∧ (gl a.next v).length ≤ 16)
def arenaAt (a : Ar) (v : Nat) : Bool := ownAt a v && isSetB (gl a.next v) a.owner.length
def arenaB (a : Ar) : Bool := decide (1 ≤ a.owner.length ∧ a.owner.length ≤ 256 ∧ a.next.length = a.owner.length) && allB a.owner.length (arenaAt a)

theorem arenaB_false1 {a : Ar} (h : ¬ (1 ≤ a.owner.length ∧ a.owner.length ≤ 256 ∧ a.next.length = a.owner.length)) : arenaB a = false := by
  unfold arenaB; rw [decide_eq_false h]; rfl
theorem arenaB_false2 {a : Ar} {v : Nat} (hv : v < a.owner.length) (h : arenaAt a v = false) : arenaB a = false := by
  unfold arenaB; rw [allB_false hv h]; simp
theorem arenaB_true {a : Ar} (h : 1 ≤ a.owner.length ∧ a.owner.length ≤ 256 ∧ a.next.length = a.owner.length) (h2 : ∀ v, v < a.owner.length → arenaAt a v = true) : arenaB a = true := by
  unfold arenaB; rw [decide_eq_true h, allB_true h2]; rfl

set_option maxHeartbeats 400000 in
theorem ArenaOkI_any {w : World} {A B : Option Addr} {n c m d : Nat} {a : Ar} (h : RI w A n c a.owner) (g : RII w B m d a.next) :
    Calls Try.prog 107 #[.agg #[.slice A n c, .slice B m d]] w fun e w' => e = .returned (.bool (arenaB a)) ∧ Below w.heap.size w w' := by
  have hle := h.le
  have hlen := Lib.hid h.len
  have glen := Lib.hid g.len
  by_cases hd : 1 ≤ n ∧ n ≤ 256 ∧ m = n
  · obtain ⟨hd1, hd2, rfl⟩ := hd
    have e1 : ((m : Int) != m) = false := by simp
    go_enter Try.func107, Try.ntmps107
    go_wp2_with fail
    go_loop [4, 5, 25] (fun _ _ i => ∃ k : Nat, k ≤ m ∧ i = .int .i64 k ∧ Hid (∀ j, j < k → arenaAt a j = true)) (fun _ _ i => m - (intOf i).toNat)
    case atStart => exact ⟨0, by omega, rfl, fun j hj => by omega⟩
    case round =>
      obtain ⟨k, hk, rfl, hall⟩ := hrel
      by_cases hlt : k < m
      · obtain ⟨b, o, rfl, hb, _, hc⟩ := h.at_ hlt
        obtain ⟨b2, o2, A', n', c', rfl, hb2, hc2, hri⟩ := g.at_ hlt
        have hn' := Lib.hid hri.len
        by_cases hown : 0 ≤ gi a.owner k ∧ gi a.owner k ≤ 1 ∧ 1 ≤ n' ∧ n' ≤ 16
        · have hok : ownAt a k = true := by unfold ownAt; rw [hn'.out, decide_eq_true_eq]; exact hown
          obtain ⟨w1, w2, w3, w4⟩ := hown
          rcases hset : isSetB (gl a.next k) m with _ | _
          · have Hset := Lib.hid hset
            have hf : arenaB a = false := arenaB_false2 (v := k) (by rw [hlen.out]; exact hlt) (by unfold arenaAt; rw [hlen.out, hset]; simp)
            have Hf := Lib.hid hf
            clear hset hf
            go_wp2_with (go_at_call 127; refine (isSet_any (hri.below (by repeat (first | (with_reducible exact Below.refl _ _) | (with_reducible assumption) | (with_reducible refine Below.drew ?_) | (with_reducible refine below_drewN ?_ _) | ((with_reducible refine Below.setCell ?_ ?_ _); rotate_left; (focus first | omega | (simp; done) | (simp; omega))) | ((with_reducible refine Below.alloc ?_ ?_ _); rotate_left; (focus first | omega | (simp; done) | (simp; omega))) | (refine Below.trans ?_ (Below.mono (by assumption) (by first | omega | (simp; done) | (simp; omega))))))) _).mono ?_; rintro e w1 ⟨rfl, rfl⟩; rw [Hset.out])
            go_ret
            exact ⟨ret_bool Hf.out.symm, by repeat (first | (with_reducible exact Below.refl _ _) | (with_reducible assumption) | (with_reducible refine Below.drew ?_) | (with_reducible refine below_drewN ?_ _) | ((with_reducible refine Below.setCell ?_ ?_ _); rotate_left; (focus first | omega | (simp; done) | (simp; omega))) | ((with_reducible refine Below.alloc ?_ ?_ _); rotate_left; (focus first | omega | (simp; done) | (simp; omega))) | (refine Below.trans ?_ (Below.mono (by assumption) (by first | omega | (simp; done) | (simp; omega)))))⟩
          · have Hset := Lib.hid hset
            have Hok := Lib.hid hok
            clear hset hok
            go_wp2_with (go_at_call 127; refine (isSet_any (hri.below (by repeat (first | (with_reducible exact Below.refl _ _) | (with_reducible assumption) | (with_reducible refine Below.drew ?_) | (with_reducible refine below_drewN ?_ _) | ((with_reducible refine Below.setCell ?_ ?_ _); rotate_left; (focus first | omega | (simp; done) | (simp; omega))) | ((with_reducible refine Below.alloc ?_ ?_ _); rotate_left; (focus first | omega | (simp; done) | (simp; omega))) | (refine Below.trans ?_ (Below.mono (by assumption) (by first | omega | (simp; done) | (simp; omega))))))) _).mono ?_; rintro e w1 ⟨rfl, rfl⟩; rw [Hset.out])
            go_round
            case rel => exact ⟨k + 1, by omega, by go_num, fun j hj => by
              by_cases hjk : j = k
              · subst hjk; unfold arenaAt; rw [hlen.out, Hset.out, Hok.out]; rfl
              · exact hall.out j (by omega)⟩
            case measure => simp [intOf]; omega
        · have hok : ownAt a k = false := by unfold ownAt; rw [hn'.out, decide_eq_false_iff_not]; exact hown
          have hf : arenaB a = false := arenaB_false2 (v := k) (by rw [hlen.out]; exact hlt) (by unfold arenaAt; rw [hok]; rfl)
          have Hf := Lib.hid hf
          clear hok hf
          have hown2 : gi a.owner k < 0 ∨ (0 ≤ gi a.owner k ∧ 1 < gi a.owner k) ∨ (0 ≤ gi a.owner k ∧ gi a.owner k ≤ 1 ∧ n' < 1) ∨ (0 ≤ gi a.owner k ∧ gi a.owner k ≤ 1 ∧ 1 ≤ n' ∧ 16 < n') := by omega
          clear hown
          rcases hown2 with w1 | ⟨w1, w2⟩ | ⟨w1, w2, w3⟩ | ⟨w1, w2, w3, w4⟩
          all_goals
            go_wp2_with fail
            go_ret
            exact ⟨ret_bool Hf.out.symm, by repeat (first | (with_reducible exact Below.refl _ _) | (with_reducible assumption) | (with_reducible refine Below.drew ?_) | (with_reducible refine below_drewN ?_ _) | ((with_reducible refine Below.setCell ?_ ?_ _); rotate_left; (focus first | omega | (simp; done) | (simp; omega))) | ((with_reducible refine Below.alloc ?_ ?_ _); rotate_left; (focus first | omega | (simp; done) | (simp; omega))) | (refine Below.trans ?_ (Below.mono (by assumption) (by first | omega | (simp; done) | (simp; omega)))))⟩
      · have hfin := Lib.hid (arenaB_true ⟨by rw [hlen.out]; exact hd1, by rw [hlen.out]; exact hd2, by rw [hlen.out, glen.out]⟩ fun j hj => hall.out j (by have := hlen.out; omega))
        go_wp2
        go_ret
        exact ⟨ret_bool hfin.out.symm, by repeat (first | (with_reducible exact Below.refl _ _) | (with_reducible assumption) | (with_reducible refine Below.drew ?_) | (with_reducible refine below_drewN ?_ _) | ((with_reducible refine Below.setCell ?_ ?_ _); rotate_left; (focus first | omega | (simp; done) | (simp; omega))) | ((with_reducible refine Below.alloc ?_ ?_ _); rotate_left; (focus first | omega | (simp; done) | (simp; omega))) | (refine Below.trans ?_ (Below.mono (by assumption) (by first | omega | (simp; done) | (simp; omega)))))⟩
  · have hf : arenaB a = false := arenaB_false1 (by rw [hlen.out, glen.out]; exact hd)
    have Hf := Lib.hid hf
    clear hf
    have hd2 : n < 1 ∨ (1 ≤ n ∧ 256 < n) ∨ (1 ≤ n ∧ n ≤ 256 ∧ ((m : Int) != n) = true) := by
      simp; omega
    clear hd
    rcases hd2 with w1 | ⟨w1, w2⟩ | ⟨w1, w2, w3⟩
    all_goals
      go_enter Try.func107, Try.ntmps107
      go_wp2_with fail
      go_ret
      exact ⟨ret_bool Hf.out.symm, by repeat (first | (with_reducible exact Below.refl _ _) | (with_reducible assumption) | (with_reducible refine Below.drew ?_) | (with_reducible refine below_drewN ?_ _) | ((with_reducible refine Below.setCell ?_ ?_ _); rotate_left; (focus first | omega | (simp; done) | (simp; omega))) | ((with_reducible refine Below.alloc ?_ ?_ _); rotate_left; (focus first | omega | (simp; done) | (simp; omega))) | (refine Below.trans ?_ (Below.mono (by assumption) (by first | omega | (simp; done) | (simp; omega)))))⟩

set_option maxHeartbeats 600000 in
theorem ArenaOkS_any {w : World} {A B : Option Addr} {n c m d : Nat} {a : Ar} (h : RI w A n c a.owner) (g : RII w B m d a.next) :
    Calls Try.prog 58 #[.agg #[.slice A n c, .slice B m d]] w fun e w' => e = .returned (.bool (arenaB a)) ∧ Below w.heap.size w w' := by
  have hle := h.le
  have hlen := Lib.hid h.len
  have glen := Lib.hid g.len
  by_cases hd : 1 ≤ n ∧ n ≤ 256 ∧ m = n
  · obtain ⟨hd1, hd2, rfl⟩ := hd
    have e1 : ((m : Int) != m) = false := by simp
    have hi : inB (m : Int) 1 256 = true := by unfold inB; simp; omega
    go_enter Try.func58, Try.ntmps58
    go_wp2_with (go_at_call 105; refine (l1In_any _ _ _ _).mono ?_; rintro e w' ⟨rfl, rfl⟩)
    go_loopw [4] (fun i wr => ∃ k : Nat, k ≤ m ∧ i = .int .i64 k ∧ Hid (∀ j, j < k → arenaAt a j = true) ∧ Qt (w.alloc (.cells #[.slice A m c, .slice B m d] 30)) wr) (fun i _ => m - (intOf i).toNat)
    case atStart => exact ⟨0, by omega, rfl, fun j hj => by omega, Qt.refl _⟩
    case round =>
      obtain ⟨k, hk, rfl, hall, jq, rfl⟩ := hrel
      by_cases hlt : k < m
      · obtain ⟨b, o, rfl, hb, _, hc⟩ := h.at_ hlt
        obtain ⟨b2, o2, A', n', c', rfl, hb2, hc2, hri⟩ := g.at_ hlt
        have hn' := Lib.hid hri.len
        have hnl := hri.le
        by_cases hown : 0 ≤ gi a.owner k ∧ gi a.owner k ≤ 1 ∧ 1 ≤ n' ∧ n' ≤ 16
        · have hok : ownAt a k = true := by unfold ownAt; rw [hn'.out, decide_eq_true_eq]; exact hown
          obtain ⟨w1, w2, w3, w4⟩ := hown
          have hin : inB (gi a.owner k) 0 1 = true := by unfold inB; simp; omega
          rcases hset : isSetB (gl a.next k) m with _ | _
          · have Hset := Lib.hid hset
            have hf : arenaB a = false := arenaB_false2 (v := k) (by rw [hlen.out]; exact hlt) (by unfold arenaAt; rw [hlen.out, hset]; simp)
            have Hf := Lib.hid hf
            clear hset hf
            go_wp2_with (first | (go_at_call 105; refine (l1In_any _ _ _ _).mono ?_; rintro e w' ⟨rfl, rfl⟩) | (go_at_call 106; refine (l1Set_any (hri.below (by repeat (first | (with_reducible exact Below.refl _ _) | (with_reducible assumption) | (with_reducible refine Below.drew ?_) | (with_reducible refine below_drewN ?_ _) | ((with_reducible refine Below.setCell ?_ ?_ _); rotate_left; (focus first | omega | (simp; done) | (simp; omega))) | ((with_reducible refine Below.alloc ?_ ?_ _); rotate_left; (focus first | omega | (simp; done) | (simp; omega))) | (refine Below.trans ?_ (Below.mono (by assumption) (by first | omega | (simp; done) | (simp; omega))))))) _ (by omega) (by omega)).mono ?_; rw [Hset.out]; rintro e w1 ⟨rfl, j1, rfl⟩))
            go_ret
            exact ⟨ret_bool Hf.out.symm, by repeat (first | (with_reducible exact Below.refl _ _) | (with_reducible assumption) | (with_reducible refine Below.drew ?_) | (with_reducible refine below_drewN ?_ _) | ((with_reducible refine Below.setCell ?_ ?_ _); rotate_left; (focus first | omega | (simp; done) | (simp; omega))) | ((with_reducible refine Below.alloc ?_ ?_ _); rotate_left; (focus first | omega | (simp; done) | (simp; omega))) | (refine Below.trans ?_ (Below.mono (by assumption) (by first | omega | (simp; done) | (simp; omega)))))⟩
          · have Hset := Lib.hid hset
            have Hok := Lib.hid hok
            clear hset hok
            go_wp2_with (first | (go_at_call 105; refine (l1In_any _ _ _ _).mono ?_; rintro e w' ⟨rfl, rfl⟩) | (go_at_call 106; refine (l1Set_any (hri.below (by repeat (first | (with_reducible exact Below.refl _ _) | (with_reducible assumption) | (with_reducible refine Below.drew ?_) | (with_reducible refine below_drewN ?_ _) | ((with_reducible refine Below.setCell ?_ ?_ _); rotate_left; (focus first | omega | (simp; done) | (simp; omega))) | ((with_reducible refine Below.alloc ?_ ?_ _); rotate_left; (focus first | omega | (simp; done) | (simp; omega))) | (refine Below.trans ?_ (Below.mono (by assumption) (by first | omega | (simp; done) | (simp; omega))))))) _ (by omega) (by omega)).mono ?_; rw [Hset.out]; rintro e w1 ⟨rfl, j1, rfl⟩))
            go_roundw
            case rel => exact ⟨k + 1, by omega, by go_num, fun j hj => by
              by_cases hjk : j = k
              · subst hjk; unfold arenaAt; rw [hlen.out, Hset.out, Hok.out]; rfl
              · exact hall.out j (by omega), _, rfl⟩
            case measure => simp [intOf]; omega
        · have hok : ownAt a k = false := by unfold ownAt; rw [hn'.out, decide_eq_false_iff_not]; exact hown
          have hf : arenaB a = false := arenaB_false2 (v := k) (by rw [hlen.out]; exact hlt) (by unfold arenaAt; rw [hok]; rfl)
          have Hf := Lib.hid hf
          clear hok hf
          have hown2 : inB (gi a.owner k) 0 1 = false ∨ (inB (gi a.owner k) 0 1 = true ∧ n' < 1) ∨ (inB (gi a.owner k) 0 1 = true ∧ 1 ≤ n' ∧ 16 < n') := by
            unfold inB; simp; omega
          clear hown
          rcases hown2 with w1 | ⟨w1, w3⟩ | ⟨w1, w3, w4⟩
          all_goals
            go_wp2_with (go_at_call 105; refine (l1In_any _ _ _ _).mono ?_; rintro e w' ⟨rfl, rfl⟩)
            go_ret
            exact ⟨ret_bool Hf.out.symm, by repeat (first | (with_reducible exact Below.refl _ _) | (with_reducible assumption) | (with_reducible refine Below.drew ?_) | (with_reducible refine below_drewN ?_ _) | ((with_reducible refine Below.setCell ?_ ?_ _); rotate_left; (focus first | omega | (simp; done) | (simp; omega))) | ((with_reducible refine Below.alloc ?_ ?_ _); rotate_left; (focus first | omega | (simp; done) | (simp; omega))) | (refine Below.trans ?_ (Below.mono (by assumption) (by first | omega | (simp; done) | (simp; omega)))))⟩
      · have hfin := Lib.hid (arenaB_true ⟨by rw [hlen.out]; exact hd1, by rw [hlen.out]; exact hd2, by rw [hlen.out, glen.out]⟩ fun j hj => hall.out j (by have := hlen.out; omega))
        go_wp2
        go_ret
        exact ⟨ret_bool hfin.out.symm, by repeat (first | (with_reducible exact Below.refl _ _) | (with_reducible assumption) | (with_reducible refine Below.drew ?_) | (with_reducible refine below_drewN ?_ _) | ((with_reducible refine Below.setCell ?_ ?_ _); rotate_left; (focus first | omega | (simp; done) | (simp; omega))) | ((with_reducible refine Below.alloc ?_ ?_ _); rotate_left; (focus first | omega | (simp; done) | (simp; omega))) | (refine Below.trans ?_ (Below.mono (by assumption) (by first | omega | (simp; done) | (simp; omega)))))⟩
  · have hf : arenaB a = false := arenaB_false1 (by rw [hlen.out, glen.out]; exact hd)
    have Hf := Lib.hid hf
    clear hf
    have hd2 : inB (n : Int) 1 256 = false ∨ (inB (n : Int) 1 256 = true ∧ ((m : Int) != n) = true) := by
      unfold inB; simp; omega
    clear hd
    rcases hd2 with w1 | ⟨w1, w3⟩
    all_goals
      go_enter Try.func58, Try.ntmps58
      go_wp2_with (go_at_call 105; refine (l1In_any _ _ _ _).mono ?_; rintro e w' ⟨rfl, rfl⟩)
      go_ret
      exact ⟨ret_bool Hf.out.symm, by repeat (first | (with_reducible exact Below.refl _ _) | (with_reducible assumption) | (with_reducible refine Below.drew ?_) | (with_reducible refine below_drewN ?_ _) | ((with_reducible refine Below.setCell ?_ ?_ _); rotate_left; (focus first | omega | (simp; done) | (simp; omega))) | ((with_reducible refine Below.alloc ?_ ?_ _); rotate_left; (focus first | omega | (simp; done) | (simp; omega))) | (refine Below.trans ?_ (Below.mono (by assumption) (by first | omega | (simp; done) | (simp; omega)))))⟩
end Go.Proofs.Ytfmkomllnojkjaa
