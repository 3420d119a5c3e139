/- Contracts of FracOf and FracLess, of the reference and of the program. -/
import Derived.Test.YtolkmdelghffdaaFrac
namespace Go.Proofs.Ytolkmdelghffdaa
open Go.ChangeShapes Go.WideShapes Go.ChangeAt Go.RowKit
set_option linter.unusedVariables false
set_option linter.unusedSimpArgs false

def fracIn (n d : Int) : Bool := inB n (-1000000) 1000000 && inB d 1 1000000
def fracRes (n d : Int) : Value := if fracIn n d then .tuple #[.agg #[.int .i64 (fracNum n d), .int .i64 (fracDen n d)], .bool true] else .tuple #[.agg #[.int .i64 0, .int .i64 0], .bool false]

theorem FracOfS_any (n d : Int) (w : World) :
    Calls Try.prog 18 #[.int .i64 n, .int .i64 d] w fun e w' => e = .returned (fracRes n d) ∧ Below w.heap.size w w' := by
  by_cases h1 : inB n (-1000000) 1000000 = true
  · obtain ⟨b11, b12⟩ := inB_true h1
    by_cases h2 : inB d 1 1000000 = true
    · obtain ⟨b21, b22⟩ := inB_true h2
      have e : fracRes n d = .tuple #[.agg #[.int .i64 (fracNum n d), .int .i64 (fracDen n d)], .bool true] := by unfold fracRes fracIn; simp [h1, h2]
      rw [e]; clear e
      go_enter Try.func18, Try.ntmps18
      go_wp2_with (first | (go_at_call 21; refine (l1In_any _ _ _ _).mono ?_; rintro e w' ⟨rfl, rfl⟩) | (go_at_call 26; refine (l21Frac_any _ _ _ (by omega) (by omega) (by omega) (by omega)).mono ?_; rintro e w1 ⟨rfl, hb⟩; have hz := hb.size; (try simp at hz); (try (refine bat_k hb w.heap.size ?_ ?_; (focus first | omega | (simp; done) | (simp; omega)); intro hc0 hf0 hs0)); (try (refine bat_k hb (w.heap.size + 1) ?_ ?_; (focus first | omega | (simp; done) | (simp; omega)); intro hc1 hf1 hs1))))
      exact bodyPost_ret (v := .tuple #[.agg #[.int .i64 (fracNum n d), .int .i64 (fracDen n d)], .bool true]) (by simp [results, Try.results18, go_sem, hc0]) rfl ⟨rfl, by repeat (first | exact Below.refl _ _ | assumption | refine Below.drew ?_ | refine below_drewN ?_ _ | refine Below.setCell ?_ (by first | omega | (simp; done) | (simp; omega)) _ | refine Below.alloc ?_ (by first | omega | (simp; done) | (simp; omega)) _ | (refine Below.trans ?_ (Below.mono (by assumption) (by first | omega | (simp; done) | (simp; omega)))))⟩
    · have h2 : inB d 1 1000000 = false := by simpa using h2
      have e : fracRes n d = .tuple #[.agg #[.int .i64 0, .int .i64 0], .bool false] := by unfold fracRes fracIn; simp [h1, h2]
      rw [e]; clear e
      go_enter Try.func18, Try.ntmps18
      go_wp2_with (first | (go_at_call 21; refine (l1In_any _ _ _ _).mono ?_; rintro e w' ⟨rfl, rfl⟩))
      exact bodyPost_ret (v := .tuple #[.agg #[.int .i64 0, .int .i64 0], .bool false]) (by simp [results, Try.results18, go_sem]) rfl ⟨rfl, by repeat (first | exact Below.refl _ _ | assumption | refine Below.drew ?_ | refine below_drewN ?_ _ | refine Below.setCell ?_ (by first | omega | (simp; done) | (simp; omega)) _ | refine Below.alloc ?_ (by first | omega | (simp; done) | (simp; omega)) _ | (refine Below.trans ?_ (Below.mono (by assumption) (by first | omega | (simp; done) | (simp; omega)))))⟩
  · have h1 : inB n (-1000000) 1000000 = false := by simpa using h1
    have e : fracRes n d = .tuple #[.agg #[.int .i64 0, .int .i64 0], .bool false] := by unfold fracRes fracIn; simp [h1]
    rw [e]; clear e
    go_enter Try.func18, Try.ntmps18
    go_wp2_with (first | (go_at_call 21; refine (l1In_any _ _ _ _).mono ?_; rintro e w' ⟨rfl, rfl⟩))
    exact bodyPost_ret (v := .tuple #[.agg #[.int .i64 0, .int .i64 0], .bool false]) (by simp [results, Try.results18, go_sem]) rfl ⟨rfl, by repeat (first | exact Below.refl _ _ | assumption | refine Below.drew ?_ | refine below_drewN ?_ _ | refine Below.setCell ?_ (by first | omega | (simp; done) | (simp; omega)) _ | refine Below.alloc ?_ (by first | omega | (simp; done) | (simp; omega)) _ | (refine Below.trans ?_ (Below.mono (by assumption) (by first | omega | (simp; done) | (simp; omega)))))⟩

theorem FracOfI_any (n d : Int) (w : World) :
    Calls Try.prog 19 #[.int .i64 n, .int .i64 d] w fun e w' => e = .returned (fracRes n d) ∧ Below w.heap.size w w' := by
  by_cases h : fracIn n d = true
  · have e : fracRes n d = .tuple #[.agg #[.int .i64 (fracNum n d), .int .i64 (fracDen n d)], .bool true] := by unfold fracRes; simp [h]
    rw [e]; clear e
    unfold fracIn inB at h
    simp at h
    obtain ⟨⟨h1, h2⟩, h3, h4⟩ := h
    have n1 : ¬ n < -1000000 := by omega
    have n2 : ¬ 1000000 < n := by omega
    have n3 : ¬ d < 1 := by omega
    have n4 : ¬ 1000000 < d := by omega
    go_enter Try.func19, Try.ntmps19
    go_wp2_with (first | (go_at_call 27; refine (fracOf_any _ _ _ (by omega) (by omega) (by omega) (by omega)).mono ?_; rintro e w1 ⟨rfl, hb⟩; have hz := hb.size; (try simp at hz); (try (refine bat_k hb w.heap.size ?_ ?_; (focus first | omega | (simp; done) | (simp; omega)); intro hc0 hf0 hs0)); (try (refine bat_k hb (w.heap.size + 1) ?_ ?_; (focus first | omega | (simp; done) | (simp; omega)); intro hc1 hf1 hs1))))
    exact bodyPost_ret (v := .tuple #[.agg #[.int .i64 (fracNum n d), .int .i64 (fracDen n d)], .bool true]) (by simp [results, Try.results19, go_sem, hc0]) rfl ⟨rfl, by repeat (first | exact Below.refl _ _ | assumption | refine Below.drew ?_ | refine below_drewN ?_ _ | refine Below.setCell ?_ (by first | omega | (simp; done) | (simp; omega)) _ | refine Below.alloc ?_ (by first | omega | (simp; done) | (simp; omega)) _ | (refine Below.trans ?_ (Below.mono (by assumption) (by first | omega | (simp; done) | (simp; omega)))))⟩
  · have e : fracRes n d = .tuple #[.agg #[.int .i64 0, .int .i64 0], .bool false] := by unfold fracRes; simp [h]
    rw [e]; clear e
    have h : n < -1000000 ∨ (-1000000 ≤ n ∧ 1000000 < n) ∨ (-1000000 ≤ n ∧ n ≤ 1000000 ∧ d < 1) ∨ (-1000000 ≤ n ∧ n ≤ 1000000 ∧ 1 ≤ d ∧ 1000000 < d) := by
      unfold fracIn inB at h
      simp at h
      omega
    rcases h with h1 | ⟨h1, h2⟩ | ⟨h1, h2, h3⟩ | ⟨h1, h2, h3, h4⟩
    all_goals
      go_enter Try.func19, Try.ntmps19
      go_wp2
      exact bodyPost_ret (v := .tuple #[.agg #[.int .i64 0, .int .i64 0], .bool false]) (by simp [results, Try.results19, go_sem]) rfl ⟨rfl, by repeat (first | exact Below.refl _ _ | assumption | refine Below.drew ?_ | refine below_drewN ?_ _ | refine Below.setCell ?_ (by first | omega | (simp; done) | (simp; omega)) _ | refine Below.alloc ?_ (by first | omega | (simp; done) | (simp; omega)) _ | (refine Below.trans ?_ (Below.mono (by assumption) (by first | omega | (simp; done) | (simp; omega)))))⟩

def fracLessB (n d m f : Int) : Bool := fracOk n d && (fracOk m f && decide (n * f < m * d))

theorem fracOk_bounds {n d : Int} (h : fracOk n d = true) : -1000000 ≤ n ∧ n ≤ 1000000 ∧ 1 ≤ d ∧ d ≤ 1000000 := by
  unfold fracOk inB at h
  simp at h
  omega
theorem mul_small {x y : Int} (h1 : -1000000 ≤ x) (h2 : x ≤ 1000000) (h3 : 1 ≤ y) (h4 : y ≤ 1000000) : -1000000000000 ≤ x * y ∧ x * y ≤ 1000000000000 := by
  have a : x * y ≤ 1000000 * y := Int.mul_le_mul_of_nonneg_right h2 (by omega)
  have b : -1000000 * y ≤ x * y := Int.mul_le_mul_of_nonneg_right h1 (by omega)
  omega

theorem fracLess_any (n d m f : Int) (w : World) (h1 : -1000000 ≤ n) (h2 : n ≤ 1000000) (h3 : 1 ≤ d) (h4 : d ≤ 1000000) (h5 : -1000000 ≤ m) (h6 : m ≤ 1000000) (h7 : 1 ≤ f) (h8 : f ≤ 1000000) :
    Calls Try.prog 25 #[.agg #[.int .i64 n, .int .i64 d], .agg #[.int .i64 m, .int .i64 f]] w fun e w' => e = .returned (.bool (decide (n * f < m * d))) ∧ Below w.heap.size w w' := by
  obtain ⟨a1, a2⟩ := mul_small h1 h2 h7 h8
  obtain ⟨b1, b2⟩ := mul_small h5 h6 h3 h4
  go_enter Try.func25, Try.ntmps25
  go_wp2
  go_ret
  exact ⟨rfl, by repeat (first | exact Below.refl _ _ | assumption | refine Below.drew ?_ | refine below_drewN ?_ _ | refine Below.setCell ?_ (by first | omega | (simp; done) | (simp; omega)) _ | refine Below.alloc ?_ (by first | omega | (simp; done) | (simp; omega)) _ | (refine Below.trans ?_ (Below.mono (by assumption) (by first | omega | (simp; done) | (simp; omega)))))⟩

theorem FracLessS_any (n d m f : Int) (w : World) :
    Calls Try.prog 16 #[.agg #[.int .i64 n, .int .i64 d], .agg #[.int .i64 m, .int .i64 f]] w fun e w' => e = .returned (.bool (fracLessB n d m f)) ∧ Below w.heap.size w w' := by
  by_cases g1 : fracOk n d = true
  · by_cases g2 : fracOk m f = true
    · have e : fracLessB n d m f = decide (n * f < m * d) := by unfold fracLessB; simp [g1, g2]
      rw [e]; clear e
      obtain ⟨h1, h2, h3, h4⟩ := fracOk_bounds g1
      obtain ⟨h5, h6, h7, h8⟩ := fracOk_bounds g2
      obtain ⟨a1, a2⟩ := mul_small h1 h2 h7 h8
      obtain ⟨b1, b2⟩ := mul_small h5 h6 h3 h4
      go_enter Try.func16, Try.ntmps16
      go_wp2_with (go_at_call 13; refine (FracOkS_any _ _ _).mono ?_; rintro e w1 ⟨rfl, hb⟩; have hz := hb.size; (try simp at hz); (try (refine bat_k hb w.heap.size ?_ ?_; (focus first | omega | (simp; done) | (simp; omega)); intro hc0 hf0 hs0)); (try (refine bat_k hb (w.heap.size + 1) ?_ ?_; (focus first | omega | (simp; done) | (simp; omega)); intro hc1 hf1 hs1)))
      go_ret
      exact ⟨rfl, by repeat (first | exact Below.refl _ _ | assumption | refine Below.drew ?_ | refine below_drewN ?_ _ | refine Below.setCell ?_ (by first | omega | (simp; done) | (simp; omega)) _ | refine Below.alloc ?_ (by first | omega | (simp; done) | (simp; omega)) _ | (refine Below.trans ?_ (Below.mono (by assumption) (by first | omega | (simp; done) | (simp; omega)))))⟩
    · have g2 : fracOk m f = false := by simpa using g2
      have e : fracLessB n d m f = false := by unfold fracLessB; simp [g1, g2]
      rw [e]; clear e
      go_enter Try.func16, Try.ntmps16
      go_wp2_with (go_at_call 13; refine (FracOkS_any _ _ _).mono ?_; rintro e w1 ⟨rfl, hb⟩; have hz := hb.size; (try simp at hz); (try (refine bat_k hb w.heap.size ?_ ?_; (focus first | omega | (simp; done) | (simp; omega)); intro hc0 hf0 hs0)); (try (refine bat_k hb (w.heap.size + 1) ?_ ?_; (focus first | omega | (simp; done) | (simp; omega)); intro hc1 hf1 hs1)))
      go_ret
      exact ⟨rfl, by repeat (first | exact Below.refl _ _ | assumption | refine Below.drew ?_ | refine below_drewN ?_ _ | refine Below.setCell ?_ (by first | omega | (simp; done) | (simp; omega)) _ | refine Below.alloc ?_ (by first | omega | (simp; done) | (simp; omega)) _ | (refine Below.trans ?_ (Below.mono (by assumption) (by first | omega | (simp; done) | (simp; omega)))))⟩
  · have g1 : fracOk n d = false := by simpa using g1
    have e : fracLessB n d m f = false := by unfold fracLessB; simp [g1]
    rw [e]; clear e
    go_enter Try.func16, Try.ntmps16
    go_wp2_with (go_at_call 13; refine (FracOkS_any _ _ _).mono ?_; rintro e w1 ⟨rfl, hb⟩; have hz := hb.size; (try simp at hz); (try (refine bat_k hb w.heap.size ?_ ?_; (focus first | omega | (simp; done) | (simp; omega)); intro hc0 hf0 hs0)); (try (refine bat_k hb (w.heap.size + 1) ?_ ?_; (focus first | omega | (simp; done) | (simp; omega)); intro hc1 hf1 hs1)))
    go_ret
    exact ⟨rfl, by repeat (first | exact Below.refl _ _ | assumption | refine Below.drew ?_ | refine below_drewN ?_ _ | refine Below.setCell ?_ (by first | omega | (simp; done) | (simp; omega)) _ | refine Below.alloc ?_ (by first | omega | (simp; done) | (simp; omega)) _ | (refine Below.trans ?_ (Below.mono (by assumption) (by first | omega | (simp; done) | (simp; omega)))))⟩

theorem FracLessI_any (n d m f : Int) (w : World) :
    Calls Try.prog 17 #[.agg #[.int .i64 n, .int .i64 d], .agg #[.int .i64 m, .int .i64 f]] w fun e w' => e = .returned (.bool (fracLessB n d m f)) ∧ Below w.heap.size w w' := by
  by_cases g1 : fracOk n d = true
  · by_cases g2 : fracOk m f = true
    · have e : fracLessB n d m f = decide (n * f < m * d) := by unfold fracLessB; simp [g1, g2]
      rw [e]; clear e
      obtain ⟨h1, h2, h3, h4⟩ := fracOk_bounds g1
      obtain ⟨h5, h6, h7, h8⟩ := fracOk_bounds g2
      go_enter Try.func17, Try.ntmps17
      go_wp2_with (first | (go_at_call 24; refine (isFrac_any _ _ _).mono ?_; rintro e w1 ⟨rfl, hb⟩; have hz := hb.size; (try simp at hz); (try (refine bat_k hb w.heap.size ?_ ?_; (focus first | omega | (simp; done) | (simp; omega)); intro hc0 hf0 hs0)); (try (refine bat_k hb (w.heap.size + 1) ?_ ?_; (focus first | omega | (simp; done) | (simp; omega)); intro hc1 hf1 hs1))) | (go_at_call 25; refine (fracLess_any _ _ _ _ _ (by assumption) (by assumption) (by assumption) (by assumption) (by assumption) (by assumption) (by assumption) (by assumption)).mono ?_; rintro e w1 ⟨rfl, hb⟩; have hz := hb.size; (try simp at hz); (try (refine bat_k hb w.heap.size ?_ ?_; (focus first | omega | (simp; done) | (simp; omega)); intro hc0 hf0 hs0)); (try (refine bat_k hb (w.heap.size + 1) ?_ ?_; (focus first | omega | (simp; done) | (simp; omega)); intro hc1 hf1 hs1))))
      go_ret
      exact ⟨rfl, by repeat (first | exact Below.refl _ _ | assumption | refine Below.drew ?_ | refine below_drewN ?_ _ | refine Below.setCell ?_ (by first | omega | (simp; done) | (simp; omega)) _ | refine Below.alloc ?_ (by first | omega | (simp; done) | (simp; omega)) _ | (refine Below.trans ?_ (Below.mono (by assumption) (by first | omega | (simp; done) | (simp; omega)))))⟩
    · have g2 : fracOk m f = false := by simpa using g2
      have e : fracLessB n d m f = false := by unfold fracLessB; simp [g1, g2]
      rw [e]; clear e
      go_enter Try.func17, Try.ntmps17
      go_wp2_with (go_at_call 24; refine (isFrac_any _ _ _).mono ?_; rintro e w1 ⟨rfl, hb⟩; have hz := hb.size; (try simp at hz); (try (refine bat_k hb w.heap.size ?_ ?_; (focus first | omega | (simp; done) | (simp; omega)); intro hc0 hf0 hs0)); (try (refine bat_k hb (w.heap.size + 1) ?_ ?_; (focus first | omega | (simp; done) | (simp; omega)); intro hc1 hf1 hs1)))
      go_ret
      exact ⟨rfl, by repeat (first | exact Below.refl _ _ | assumption | refine Below.drew ?_ | refine below_drewN ?_ _ | refine Below.setCell ?_ (by first | omega | (simp; done) | (simp; omega)) _ | refine Below.alloc ?_ (by first | omega | (simp; done) | (simp; omega)) _ | (refine Below.trans ?_ (Below.mono (by assumption) (by first | omega | (simp; done) | (simp; omega)))))⟩
  · have g1 : fracOk n d = false := by simpa using g1
    have e : fracLessB n d m f = false := by unfold fracLessB; simp [g1]
    rw [e]; clear e
    go_enter Try.func17, Try.ntmps17
    go_wp2_with (go_at_call 24; refine (isFrac_any _ _ _).mono ?_; rintro e w1 ⟨rfl, hb⟩; have hz := hb.size; (try simp at hz); (try (refine bat_k hb w.heap.size ?_ ?_; (focus first | omega | (simp; done) | (simp; omega)); intro hc0 hf0 hs0)); (try (refine bat_k hb (w.heap.size + 1) ?_ ?_; (focus first | omega | (simp; done) | (simp; omega)); intro hc1 hf1 hs1)))
    go_ret
    exact ⟨rfl, by repeat (first | exact Below.refl _ _ | assumption | refine Below.drew ?_ | refine below_drewN ?_ _ | refine Below.setCell ?_ (by first | omega | (simp; done) | (simp; omega)) _ | refine Below.alloc ?_ (by first | omega | (simp; done) | (simp; omega)) _ | (refine Below.trans ?_ (Below.mono (by assumption) (by first | omega | (simp; done) | (simp; omega)))))⟩

theorem toFrac_any (n d : Int) (w : World) :
    Calls Try.prog 14 #[.agg #[.int .i64 n, .int .i64 d]] w fun e w' => e = .returned (.agg #[.int .i64 n, .int .i64 d]) ∧ Below w.heap.size w w' := by
  go_enter Try.func14, Try.ntmps14
  go_wp2
  exact bodyPost_ret (v := .agg #[.int .i64 n, .int .i64 d]) (by simp [results, Try.results14, go_sem]) rfl ⟨rfl, by repeat (first | exact Below.refl _ _ | assumption | refine Below.drew ?_ | refine below_drewN ?_ _ | refine Below.setCell ?_ (by first | omega | (simp; done) | (simp; omega)) _ | refine Below.alloc ?_ (by first | omega | (simp; done) | (simp; omega)) _ | (refine Below.trans ?_ (Below.mono (by assumption) (by first | omega | (simp; done) | (simp; omega)))))⟩

theorem eqFrac_same (n d : Int) (w : World) :
    Calls Try.prog 20 #[.agg #[.int .i64 n, .int .i64 d], .agg #[.int .i64 n, .int .i64 d]] w fun e w' => e = .returned (.bool true) ∧ Below w.heap.size w w' := by
  go_enter Try.func20, Try.ntmps20
  go_wp2
  go_ret
  exact ⟨rfl, by repeat (first | exact Below.refl _ _ | assumption | refine Below.drew ?_ | refine below_drewN ?_ _ | refine Below.setCell ?_ (by first | omega | (simp; done) | (simp; omega)) _ | refine Below.alloc ?_ (by first | omega | (simp; done) | (simp; omega)) _ | (refine Below.trans ?_ (Below.mono (by assumption) (by first | omega | (simp; done) | (simp; omega)))))⟩

end Go.Proofs.Ytolkmdelghffdaa
