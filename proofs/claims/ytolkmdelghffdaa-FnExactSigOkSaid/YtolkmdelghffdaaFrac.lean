/- Contracts of the functions on fractions: gcd, FracOk, FracOf, FracLess, of the reference and of the program. -/
import Derived.Test.YtolkmdelghffdaaRows
import Derived.Test.YtolkmdelghffdaaBase
namespace Go.Proofs.Ytolkmdelghffdaa
open Go.ChangeShapes Go.WideShapes Go.ChangeAt Go.RowKit
set_option linter.unusedVariables false
set_option linter.unusedSimpArgs false

theorem l1In_any (x lo hi : Int) (w : World) :
    Calls Try.prog 21 #[.int .i64 x, .int .i64 lo, .int .i64 hi] w fun e w' => e = .returned (.bool (inB x lo hi)) ∧ w = w' := by
  by_cases h1 : lo ≤ x
  · have e : inB x lo hi = decide (x ≤ hi) := by unfold inB; simp [h1]
    rw [e]; clear e
    go_enter Try.func21, Try.ntmps21
    go_wp2
    go_ret
    exact ⟨rfl, rfl⟩
  · have e : inB x lo hi = false := by unfold inB; simp [h1]
    rw [e]; clear e
    go_enter Try.func21, Try.ntmps21
    go_wp2
    go_ret
    exact ⟨rfl, rfl⟩

theorem abs_any (x : Int) (w : World) (h : -9223372036854775807 ≤ x) (h2 : x ≤ 9223372036854775807):
    Calls Try.prog 28 #[.int .i64 x] w fun e w' => e = .returned (.int .i64 x.natAbs) ∧ w = w' := by
  by_cases h1 : x < 0
  · go_enter Try.func28, Try.ntmps28
    go_wp2
    go_ret
    exact ⟨ret_int (by omega), rfl⟩
  · go_enter Try.func28, Try.ntmps28
    go_wp2
    go_ret
    exact ⟨ret_int (by omega), rfl⟩

theorem gcdS_any (a b : Int) (w : World) (h : -9223372036854775807 ≤ a) (h2 : a ≤ 9223372036854775807) (h3 : -9223372036854775807 ≤ b) (h4 : b ≤ 9223372036854775807) :
    Calls Try.prog 23 #[.int .i64 a, .int .i64 b] w fun e w' => e = .returned (.int .i64 (Int.gcd a b)) ∧ w = w' := by
  have ha : a.natAbs ≤ 9223372036854775807 := by omega
  have hb : b.natAbs ≤ 9223372036854775807 := by omega
  go_enter Try.func23, Try.ntmps23
  go_wp2_with (go_at_call 28; refine (abs_any _ _ (by assumption) (by assumption)).mono ?_; rintro e w' ⟨rfl, rfl⟩)
  go_loop [0, 1, 5] (fun x y _ => ∃ p q : Nat, p ≤ 9223372036854775807 ∧ q ≤ 9223372036854775807 ∧ x = .int .i64 p ∧ y = .int .i64 q ∧ Hid (Nat.gcd p q = Int.gcd a b)) (fun _ y _ => (intOf y).toNat)
  case atStart => exact ⟨a.natAbs, b.natAbs, ha, hb, rfl, rfl, rfl⟩
  case round =>
    obtain ⟨p, q, hp, hq, rfl, rfl, hg⟩ := hrel
    by_cases h0 : q = 0
    · subst h0
      go_wp2
      go_ret
      refine ⟨ret_int ?_, rfl⟩
      have := hg.out
      rw [Nat.gcd_zero_right] at this
      rw [this]
    · have hpos : 0 < q := by omega
      have hlt := Nat.mod_lt p hpos
      have hne : ((q : Int) != 0) = true := by simp; omega
      go_wp2
      go_round
      case rel => exact ⟨q, p % q, hq, by omega, rfl, by go_num, by have := hg.out; rw [← this]; show Nat.gcd q (p % q) = _; rw [Nat.gcd_comm q, ← Nat.gcd_rec, Nat.gcd_comm]⟩
      case measure => simp [intOf]; omega

theorem gcdI_any (a b : Nat) (w : World) (h2 : a ≤ 9223372036854775807) (h4 : b ≤ 9223372036854775807) :
    Calls Try.prog 29 #[.int .i64 a, .int .i64 b] w fun e w' => e = .returned (.int .i64 (Nat.gcd a b)) ∧ ∃ n, w' = w.drewN n := by
  go_enter Try.func29, Try.ntmps29
  go_wp2
  go_loopw [0, 1] (fun x y wr => ∃ p q n : Nat, p ≤ 9223372036854775807 ∧ q ≤ 9223372036854775807 ∧ x = .int .i64 p ∧ y = .int .i64 q ∧ Hid (Nat.gcd p q = Nat.gcd a b) ∧ wr = w.drewN n) (fun _ y _ => (intOf y).toNat)
  case atStart => exact ⟨a, b, 0, h2, h4, rfl, rfl, rfl, rfl⟩
  case round =>
    obtain ⟨p, q, n, hp, hq, rfl, rfl, hg, rfl⟩ := hrel
    by_cases h0 : q = 0
    · subst h0
      go_wp2
      go_ret
      refine ⟨ret_int ?_, n, rfl⟩
      have := hg.out
      rw [Nat.gcd_zero_right] at this
      rw [this]
    · have hpos : 0 < q := by omega
      have hlt := Nat.mod_lt p hpos
      have hne : ((q : Int) != 0) = true := by simp; omega
      have hne2 : ((q : Int) == 0) = false := by simp; omega
      go_wp2
      go_quiet (fail)
      go_wp2
      go_roundw
      case rel => exact ⟨q, p % q, _, hq, by omega, rfl, by go_num, by have := hg.out; rw [← this]; show Nat.gcd q (p % q) = _; rw [Nat.gcd_comm q, ← Nat.gcd_rec, Nat.gcd_comm], World.drewN_drewN _ _ _⟩
      case measure => simp [intOf]; omega

theorem gcdI_int (a b : Int) (w : World) (h1 : 0 ≤ a) (h2 : a ≤ 9223372036854775807) (h3 : 0 ≤ b) (h4 : b ≤ 9223372036854775807) :
    Calls Try.prog 29 #[.int .i64 a, .int .i64 b] w fun e w' => e = .returned (.int .i64 (Int.gcd a b)) ∧ ∃ n, w' = w.drewN n := by
  obtain ⟨x, rfl⟩ := Int.eq_ofNat_of_zero_le h1
  obtain ⟨y, rfl⟩ := Int.eq_ofNat_of_zero_le h3
  exact gcdI_any x y w (by omega) (by omega)

theorem gcdNeg (n d : Int) : Int.gcd (-n) d = Int.gcd n d := by simp [Int.gcd]
theorem gcdS_as {g : Int} (a b : Int) (w : World) (hg : Hid ((Int.gcd a b : Int) = g)) (h : -9223372036854775807 ≤ a) (h2 : a ≤ 9223372036854775807) (h3 : -9223372036854775807 ≤ b) (h4 : b ≤ 9223372036854775807) :
    Calls Try.prog 23 #[.int .i64 a, .int .i64 b] w fun e w' => e = .returned (.int .i64 g) ∧ w = w' := by
  rw [← hg.out]; exact gcdS_any a b w h h2 h3 h4
theorem gcdI_as {g : Int} (a b : Int) (w : World) (hg : Hid ((Int.gcd a b : Int) = g)) (h : 0 ≤ a) (h2 : a ≤ 9223372036854775807) (h3 : 0 ≤ b) (h4 : b ≤ 9223372036854775807) :
    Calls Try.prog 29 #[.int .i64 a, .int .i64 b] w fun e w' => e = .returned (.int .i64 g) ∧ ∃ n, w' = w.drewN n := by
  rw [← hg.out]; exact gcdI_int a b w h h2 h3 h4

def fracOk (n d : Int) : Bool := inB n (-1000000) 1000000 && inB d 1 1000000 && ((Int.gcd n d : Int) == 1)

theorem FracOkS_any (n d : Int) (w : World) :
    Calls Try.prog 13 #[.agg #[.int .i64 n, .int .i64 d]] w fun e w' => e = .returned (.bool (fracOk n d)) ∧ Below w.heap.size w w' := by
  by_cases h1 : inB n (-1000000) 1000000 = true
  · have b1 := inB_true h1
    obtain ⟨b11, b12⟩ := b1
    by_cases h2 : inB d 1 1000000 = true
    · obtain ⟨b21, b22⟩ := inB_true h2
      have e : fracOk n d = ((Int.gcd n d : Int) == 1) := by unfold fracOk; simp [h1, h2]
      rw [e]; clear e
      go_enter Try.func13, Try.ntmps13
      go_wp2_with (first | (go_at_call 21; refine (l1In_any _ _ _ _).mono ?_; rintro e w' ⟨rfl, rfl⟩) | (go_at_call 23; refine (gcdS_any _ _ _ (by omega) (by omega) (by omega) (by omega)).mono ?_; rintro e w' ⟨rfl, rfl⟩))
      go_ret
      exact ⟨rfl, by repeat (first | exact Below.refl _ _ | assumption | refine Below.drew ?_ | refine below_drewN ?_ _ | refine Below.setCell ?_ (by first | omega | (simp; done) | (simp; omega)) _ | refine Below.alloc ?_ (by first | omega | (simp; done) | (simp; omega)) _ | (refine Below.trans ?_ (Below.mono (by assumption) (by first | omega | (simp; done) | (simp; omega)))))⟩
    · have h2 : inB d 1 1000000 = false := by simpa using h2
      have e : fracOk n d = false := by unfold fracOk; simp [h1, h2]
      rw [e]; clear e
      go_enter Try.func13, Try.ntmps13
      go_wp2_with (first | (go_at_call 21; refine (l1In_any _ _ _ _).mono ?_; rintro e w' ⟨rfl, rfl⟩))
      go_ret
      exact ⟨rfl, by repeat (first | exact Below.refl _ _ | assumption | refine Below.drew ?_ | refine below_drewN ?_ _ | refine Below.setCell ?_ (by first | omega | (simp; done) | (simp; omega)) _ | refine Below.alloc ?_ (by first | omega | (simp; done) | (simp; omega)) _ | (refine Below.trans ?_ (Below.mono (by assumption) (by first | omega | (simp; done) | (simp; omega)))))⟩
  · have h1 : inB n (-1000000) 1000000 = false := by simpa using h1
    have e : fracOk n d = false := by unfold fracOk; simp [h1]
    rw [e]; clear e
    go_enter Try.func13, Try.ntmps13
    go_wp2_with (first | (go_at_call 21; refine (l1In_any _ _ _ _).mono ?_; rintro e w' ⟨rfl, rfl⟩))
    go_ret
    exact ⟨rfl, by repeat (first | exact Below.refl _ _ | assumption | refine Below.drew ?_ | refine below_drewN ?_ _ | refine Below.setCell ?_ (by first | omega | (simp; done) | (simp; omega)) _ | refine Below.alloc ?_ (by first | omega | (simp; done) | (simp; omega)) _ | (refine Below.trans ?_ (Below.mono (by assumption) (by first | omega | (simp; done) | (simp; omega)))))⟩

theorem isFrac_any (n d : Int) (w : World) :
    Calls Try.prog 24 #[.agg #[.int .i64 n, .int .i64 d]] w fun e w' => e = .returned (.bool (fracOk n d)) ∧ Below w.heap.size w w' := by
  by_cases h1 : -1000000 ≤ n
  · by_cases h2 : n ≤ 1000000
    · by_cases h3 : 1 ≤ d
      · by_cases h4 : d ≤ 1000000
        · have e : fracOk n d = ((Int.gcd n d : Int) == 1) := by unfold fracOk inB; simp [h1, h2, h3, h4]
          rw [e]; clear e
          go_enter Try.func24, Try.ntmps24
          go_wp2_with (go_at_call 29; refine (gcdI_int _ _ _ (by omega) (by omega) (by omega) (by omega)).mono ?_; rintro e w' ⟨rfl, m, rfl⟩)
          all_goals
            go_ret
            exact ⟨ret_bool (by first | rw [← gcdNeg n d]; rfl | rfl), by repeat (first | exact Below.refl _ _ | assumption | refine Below.drew ?_ | refine below_drewN ?_ _ | refine Below.setCell ?_ (by first | omega | (simp; done) | (simp; omega)) _ | refine Below.alloc ?_ (by first | omega | (simp; done) | (simp; omega)) _ | (refine Below.trans ?_ (Below.mono (by assumption) (by first | omega | (simp; done) | (simp; omega)))))⟩
        all_goals
          have e : fracOk n d = false := by unfold fracOk inB; simp [h1, h2, h3, h4]
          rw [e]; clear e
          go_enter Try.func24, Try.ntmps24
          go_wp2
          go_ret
          exact ⟨rfl, by repeat (first | exact Below.refl _ _ | assumption | refine Below.drew ?_ | refine below_drewN ?_ _ | refine Below.setCell ?_ (by first | omega | (simp; done) | (simp; omega)) _ | refine Below.alloc ?_ (by first | omega | (simp; done) | (simp; omega)) _ | (refine Below.trans ?_ (Below.mono (by assumption) (by first | omega | (simp; done) | (simp; omega)))))⟩
      all_goals
        have e : fracOk n d = false := by unfold fracOk inB; simp [h1, h2, h3]
        rw [e]; clear e
        go_enter Try.func24, Try.ntmps24
        go_wp2
        go_ret
        exact ⟨rfl, by repeat (first | exact Below.refl _ _ | assumption | refine Below.drew ?_ | refine below_drewN ?_ _ | refine Below.setCell ?_ (by first | omega | (simp; done) | (simp; omega)) _ | refine Below.alloc ?_ (by first | omega | (simp; done) | (simp; omega)) _ | (refine Below.trans ?_ (Below.mono (by assumption) (by first | omega | (simp; done) | (simp; omega)))))⟩
    all_goals
      have e : fracOk n d = false := by unfold fracOk inB; simp [h1, h2]
      rw [e]; clear e
      go_enter Try.func24, Try.ntmps24
      go_wp2
      go_ret
      exact ⟨rfl, by repeat (first | exact Below.refl _ _ | assumption | refine Below.drew ?_ | refine below_drewN ?_ _ | refine Below.setCell ?_ (by first | omega | (simp; done) | (simp; omega)) _ | refine Below.alloc ?_ (by first | omega | (simp; done) | (simp; omega)) _ | (refine Below.trans ?_ (Below.mono (by assumption) (by first | omega | (simp; done) | (simp; omega)))))⟩
  all_goals
    have e : fracOk n d = false := by unfold fracOk inB; simp [h1]
    rw [e]; clear e
    go_enter Try.func24, Try.ntmps24
    go_wp2
    go_ret
    exact ⟨rfl, by repeat (first | exact Below.refl _ _ | assumption | refine Below.drew ?_ | refine below_drewN ?_ _ | refine Below.setCell ?_ (by first | omega | (simp; done) | (simp; omega)) _ | refine Below.alloc ?_ (by first | omega | (simp; done) | (simp; omega)) _ | (refine Below.trans ?_ (Below.mono (by assumption) (by first | omega | (simp; done) | (simp; omega)))))⟩

theorem l21Frac_core (n d g : Int) (w : World) (hg : Hid ((Int.gcd n d : Int) = g)) (h0 : 1 ≤ g) (h1 : -1000000000 ≤ n) (h2 : n ≤ 1000000000) (h3 : 1 ≤ d) (h4 : d ≤ 1000000000) :
    Calls Try.prog 26 #[.int .i64 n, .int .i64 d] w fun e w' => e = .returned (.agg #[.int .i64 (n.tdiv g), .int .i64 (d / g)]) ∧ Below w.heap.size w w' := by
  have hz : (g == 0) = false := by simp; omega
  go_enter Try.func26, Try.ntmps26
  go_wp2_with (go_at_call 23; refine (gcdS_as _ _ _ hg (by omega) (by omega) (by omega) (by omega)).mono ?_; rintro e w' ⟨rfl, rfl⟩)
  go_region
  all_goals go_wp2
  exact bodyPost_ret (v := .agg #[.int .i64 (n.tdiv g), .int .i64 (d / g)]) (by simp [results, Try.results26, go_sem]) rfl ⟨rfl, by repeat (first | exact Below.refl _ _ | assumption | refine Below.drew ?_ | refine below_drewN ?_ _ | refine Below.setCell ?_ (by first | omega | (simp; done) | (simp; omega)) _ | refine Below.alloc ?_ (by first | omega | (simp; done) | (simp; omega)) _ | (refine Below.trans ?_ (Below.mono (by assumption) (by first | omega | (simp; done) | (simp; omega)))))⟩

theorem fracOf_core (n d g : Int) (w : World) (hg : Hid ((Int.gcd n d : Int) = g)) (h0 : 1 ≤ g) (h1 : -1000000000 ≤ n) (h2 : n ≤ 1000000000) (h3 : 1 ≤ d) (h4 : d ≤ 1000000000) :
    Calls Try.prog 27 #[.int .i64 n, .int .i64 d] w fun e w' => e = .returned (.agg #[.int .i64 (n.tdiv g), .int .i64 (d / g)]) ∧ Below w.heap.size w w' := by
  have hz : (g == 0) = false := by simp; omega
  have hg2 : Hid ((Int.gcd (-n) d : Int) = g) := by have h := hg.out; rw [← gcdNeg n d] at h; exact h
  go_enter Try.func27, Try.ntmps27
  go_wp2_with (go_at_call 29; first | ((with_reducible refine (gcdI_as (-n) d _ hg2 (by omega) (by omega) (by omega) (by omega)).mono ?_); rintro e w' ⟨rfl, m, rfl⟩) | ((with_reducible refine (gcdI_as n d _ hg (by omega) (by omega) (by omega) (by omega)).mono ?_); rintro e w' ⟨rfl, m, rfl⟩))
  all_goals
    go_region
    all_goals go_wp2
    exact bodyPost_ret (v := .agg #[.int .i64 (n.tdiv g), .int .i64 (d / g)]) (by first | (simp [results, Try.results27, go_sem]; done) | (simp [results, Try.results27, go_sem]; rw [Int.tdiv_eq_ediv_of_nonneg (by omega)])) rfl ⟨rfl, by repeat (first | exact Below.refl _ _ | assumption | refine Below.drew ?_ | refine below_drewN ?_ _ | refine Below.setCell ?_ (by first | omega | (simp; done) | (simp; omega)) _ | refine Below.alloc ?_ (by first | omega | (simp; done) | (simp; omega)) _ | (refine Below.trans ?_ (Below.mono (by assumption) (by first | omega | (simp; done) | (simp; omega)))))⟩

def fracNum (n d : Int) : Int := n.tdiv (Int.gcd n d)
def fracDen (n d : Int) : Int := d / (Int.gcd n d)

theorem gcd_pos (n d : Int) (h : 1 ≤ d) : 1 ≤ (Int.gcd n d : Int) := by
  have : 0 < Int.gcd n d := Int.gcd_pos_of_ne_zero_right n (by omega)
  omega

theorem l21Frac_any (n d : Int) (w : World) (h1 : -1000000000 ≤ n) (h2 : n ≤ 1000000000) (h3 : 1 ≤ d) (h4 : d ≤ 1000000000) :
    Calls Try.prog 26 #[.int .i64 n, .int .i64 d] w fun e w' => e = .returned (.agg #[.int .i64 (fracNum n d), .int .i64 (fracDen n d)]) ∧ Below w.heap.size w w' :=
  l21Frac_core n d _ w rfl (gcd_pos n d h3) h1 h2 h3 h4
theorem fracOf_any (n d : Int) (w : World) (h1 : -1000000000 ≤ n) (h2 : n ≤ 1000000000) (h3 : 1 ≤ d) (h4 : d ≤ 1000000000) :
    Calls Try.prog 27 #[.int .i64 n, .int .i64 d] w fun e w' => e = .returned (.agg #[.int .i64 (fracNum n d), .int .i64 (fracDen n d)]) ∧ Below w.heap.size w w' :=
  fracOf_core n d _ w rfl (gcd_pos n d h3) h1 h2 h3 h4

end Go.Proofs.Ytolkmdelghffdaa
