/- The bound of credits, both sides. -/
import Derived.Test.YtfmkomllnojkjaaCost
import Derived.Deep.RegionHeld3
namespace Go.Proofs.Ytfmkomllnojkjaa
open Go.ChangeShapes Go.WideShapes Go.ChangeAt Go.RowKit
set_option linter.unusedVariables false
set_option linter.unusedSimpArgs false

/-- The greatest amount by which a number is below 0. -/
def mxNeg (xs : List Int) : Int := xs.foldl (fun m c => max m (-c)) 0
theorem mxNeg_snoc (xs : List Int) (c : Int) : mxNeg (xs ++ [c]) = max (mxNeg xs) (-c) := by unfold mxNeg; rw [List.foldl_append]; rfl
theorem mxNeg_nil : mxNeg [] = 0 := rfl
theorem foldl_bd {bd : Int} : ∀ (xs : List Int) (m : Int), 0 ≤ m → m ≤ bd → (∀ x ∈ xs, -bd ≤ x) → 0 ≤ xs.foldl (fun m c => max m (-c)) m ∧ xs.foldl (fun m c => max m (-c)) m ≤ bd
  | [], m, h0, h1, _ => ⟨h0, h1⟩
  | c :: xs, m, h0, h1, h => by
    have := h c (by simp)
    exact foldl_bd xs (max m (-c)) (by omega) (by omega) fun x hx => h x (by simp [hx])
theorem mxNeg_bd {bd : Int} (h0 : 0 ≤ bd) (xs : List Int) (h : ∀ x ∈ xs, -bd ≤ x) : 0 ≤ mxNeg xs ∧ mxNeg xs ≤ bd := foldl_bd xs 0 (Int.le_refl _) h0 h
def mnOf (xs : List Int) : Int := xs.tail.foldl (fun m c => min m c) (xs.headD 0)
def mxOf (xs : List Int) : Int := xs.tail.foldl (fun m c => max m c) (xs.headD 0)
theorem foldl_min_neg (l : List Int) (m s : Int) : min s (l.foldl (fun m c => min m c) m) = -(l.foldl (fun m c => max m (-c)) (max (-s) (-m))) := by
  induction l generalizing m with
  | nil => simp only [List.foldl_nil]; omega
  | cons c l ih =>
    simp only [List.foldl_cons]
    rw [ih (min m c)]
    congr 2
    omega
theorem mxNeg_append {xs row : List Int} (h : row ≠ []) : -(mxNeg (xs ++ row)) = min (-(mxNeg xs)) (mnOf row) := by
  match row, h with
  | c :: row, _ =>
    unfold mnOf
    simp only [List.tail_cons, List.headD_cons]
    rw [foldl_min_neg, Int.neg_neg]
    unfold mxNeg
    rw [List.foldl_append]
    rfl

def worstB (a : Wt) : Int := mxNeg a.cost.flatten
def boundB (a : Wt) : Int := ((a.a.owner.length : Int) - 1) * worstB a
theorem WOk.cost_bd {a : Wt} {bd : Int} (h : WOk a bd) : ∀ x ∈ a.cost.flatten, -bd ≤ x ∧ x ≤ bd := by
  intro x hx
  obtain ⟨row, hr, hx⟩ := List.mem_flatten.1 hx
  obtain ⟨v, hv, rfl⟩ := List.mem_iff_getElem.1 hr
  obtain ⟨k, hk, rfl⟩ := List.mem_iff_getElem.1 hx
  have hv' : v < a.a.owner.length := by rw [← h.cost]; exact hv
  have hg : gl a.cost v = a.cost[v] := by unfold gl; rw [List.getD_eq_getElem?_getD, List.getElem?_eq_getElem hv]; rfl
  have := h.bd v k hv' (by rw [hg]; exact hk)
  rw [hg] at this
  unfold gi at this
  rw [List.getD_eq_getElem?_getD, List.getElem?_eq_getElem hk] at this
  exact this
theorem worst_bd {a : Wt} {bd : Int} (h : WOk a bd) (h0 : 0 ≤ bd) : 0 ≤ worstB a ∧ worstB a ≤ bd := mxNeg_bd h0 _ fun x hx => (h.cost_bd x hx).1
theorem bound_bd {a : Wt} {bd : Int} (h : WOk a bd) (h0 : 0 ≤ bd) : 0 ≤ boundB a ∧ boundB a ≤ 23 * bd := by
  obtain ⟨w0, w1⟩ := worst_bd h h0
  have h1 := h.n1
  have h2 := h.n24
  unfold boundB
  constructor
  · exact Int.mul_nonneg (by omega) w0
  · exact Int.mul_le_mul (by omega) w1 w0 (by omega)

theorem l1Max_any (x y : Int) (w : World) : Calls Try.prog 121 #[.int .i64 x, .int .i64 y] w fun e w' => e = .returned (.int .i64 (max x y)) ∧ w = w' := by
  by_cases h : y < x
  · go_enter Try.func121, Try.ntmps121
    go_wp2_with fail
    go_ret
    exact ⟨ret_int (by show x = _; omega), rfl⟩
  · go_enter Try.func121, Try.ntmps121
    go_wp2_with fail
    go_ret
    exact ⟨ret_int (by show y = _; omega), rfl⟩

theorem flat_succ {rows : List (List Int)} {v : Nat} (h : v < rows.length) : (rows.take (v + 1)).flatten = (rows.take v).flatten ++ gl rows v := by
  rw [rows_take_succ h]; simp
theorem take_all2 {rows : List (List Int)} {n : Nat} (h : rows.length ≤ n) : rows.take n = rows := List.take_of_length_le h
theorem take_gi {xs : List Int} {q : Nat} (h : q < xs.length) : xs.take (q + 1) = xs.take q ++ [gi xs q] := by
  rw [List.take_add_one, gi_lt h]; rfl

set_option maxHeartbeats 1000000 in
theorem l20Worst_any {w : World} {A B C : Option Addr} {n c m d l f : Nat} {a : Wt} {bd : Int} (k : RII w C l f a.cost) (h0 : 0 ≤ bd) (h1 : bd ≤ 1000000000) (hbd : ∀ x ∈ a.cost.flatten, -bd ≤ x ∧ x ≤ bd) :
    Calls Try.prog 109 #[.agg #[.slice A n c, .slice B m d, .slice C l f]] w fun e w' => e = .returned (.int .i64 (worstB a)) ∧ Below w.heap.size w w' := by
  have kle := k.le
  have klen := Lib.hid k.len
  have Hbd := Lib.hid hbd
  clear hbd
  go_enter Try.func109, Try.ntmps109
  go_wp2_with fail
  go_loop [3, 4, 5] (fun m i _ => ∃ (v : Nat) (x : Int), v ≤ l ∧ i = .int .i64 v ∧ m = .int .i64 x ∧ Hid (x = mxNeg (a.cost.take v).flatten)) (fun _ i _ => l - (intOf i).toNat)
  case atStart => exact ⟨0, 0, by omega, rfl, rfl, rfl⟩
  case round =>
    obtain ⟨v, x, hv, rfl, rfl, hx⟩ := hrel
    by_cases hlt : v < l
    · obtain ⟨b3, o3, A3, n3, c3, rfl, hb3, hc3, hri3⟩ := k.at_ hlt
      have hn3 := Lib.hid hri3.len
      have hle3 := hri3.le
      have Hrow := Lib.hid (show ∀ y ∈ gl a.cost v, -bd ≤ y ∧ y ≤ bd from fun y hy => Hbd.out y (List.mem_flatten.2 ⟨_, gl_mem (by rw [klen.out]; exact hlt), hy⟩))
      have Htk := Lib.hid (show ∀ y ∈ (a.cost.take v).flatten, -bd ≤ y ∧ y ≤ bd from fun y hy => by
        obtain ⟨r, hr, hy⟩ := List.mem_flatten.1 hy
        exact Hbd.out y (List.mem_flatten.2 ⟨r, List.mem_of_mem_take hr, hy⟩))
      go_wp2_with fail
      go_loop [3, 5] (fun m i => ∃ (q : Nat) (x : Int), q ≤ n3 ∧ i = .int .i64 q ∧ m = .int .i64 x ∧ Hid (x = mxNeg ((a.cost.take v).flatten ++ (gl a.cost v).take q))) (fun _ i => n3 - (intOf i).toNat)
      case atStart => exact ⟨0, x, by omega, rfl, rfl, by show _ = _; rw [List.take_zero, List.append_nil]; exact hx.out⟩
      case round =>
        clear hx
        obtain ⟨q, x, hq, rfl, rfl, hx⟩ := hrel
        by_cases hlt2 : q < n3
        · obtain ⟨b4, o4, rfl, hb4, _, hc4⟩ := hri3.at_ hlt2
          obtain ⟨y1, y2⟩ := Hrow.out _ (gi_mem (by rw [hn3.out]; exact hlt2))
          obtain ⟨x1, x2⟩ := mxNeg_bd h0 ((a.cost.take v).flatten ++ (gl a.cost v).take q) (fun y hy => by
            rcases List.mem_append.1 hy with hy | hy
            · exact (Htk.out y hy).1
            · exact (Hrow.out y (List.mem_of_mem_take hy)).1)
          rw [← hx.out] at x1 x2
          go_wp2_with (go_at_call 121; refine (l1Max_any _ _ _).mono ?_; rintro e w1 ⟨rfl, rfl⟩)
          go_round
          case rel => exact ⟨q + 1, max x (-gi (gl a.cost v) q), by omega, by go_num, rfl, by show _ = _; rw [take_gi (by rw [hn3.out]; exact hlt2), ← List.append_assoc, mxNeg_snoc, ← hx.out]⟩
          case measure => simp [intOf]; omega
        · have hfin : Hid (x = mxNeg (a.cost.take (v + 1)).flatten) := by
            show _ = _
            rw [hx.out, flat_succ (by rw [klen.out]; exact hlt), take_all (xs := gl a.cost v) (n := q) (by have := hn3.out; omega)]
          go_wp2_with fail
          go_round
          case rel => exact ⟨v + 1, x, by omega, by go_num, rfl, hfin⟩
          case measure => simp [intOf]; omega
    · have hfin : Hid (x = worstB a) := by
        show _ = _
        rw [hx.out, List.take_of_length_le (by have := klen.out; omega)]; rfl
      go_wp2_with fail
      go_ret
      exact ⟨ret_int hfin.out, by repeat (first | (with_reducible exact Below.refl _ _) | (with_reducible assumption) | (with_reducible refine Below.drew ?_) | (with_reducible refine below_drewN ?_ _) | ((with_reducible refine Below.setCell ?_ ?_ _); rotate_left; (focus first | omega | (simp; done) | (simp; omega))) | ((with_reducible refine Below.alloc ?_ ?_ _); rotate_left; (focus first | omega | (simp; done) | (simp; omega))) | (refine Below.trans ?_ (Below.mono (by assumption) (by first | omega | (simp; done) | (simp; omega)))))⟩

theorem l20Bound_any {w : World} {A B C : Option Addr} {n c m d l f : Nat} {a : Wt} {bd : Int} (hok : WOk a bd) (hl : l = a.a.owner.length) (k : RII w C l f a.cost) (h0 : 0 ≤ bd) (h1 : bd ≤ 1000000000) :
    Calls Try.prog 69 #[.agg #[.slice A n c, .slice B m d, .slice C l f]] w fun e w' => e = .returned (.int .i64 (boundB a)) ∧ Below w.heap.size w w' := by
  have b0 := worst_bd hok h0
  have b1 := bound_bd hok h0
  have n1 := hok.n1
  have n24 := hok.n24
  have hcost := hok.cost_bd
  unfold boundB at *
  rw [← hl] at *
  generalize hW : worstB a = W at *
  have HW := Lib.hid hW
  clear hW
  obtain ⟨b2, b3⟩ := b1
  have Hc := Lib.hid hcost
  clear hcost hok
  have hw1 : IntKind.i64.wrap ((l : Int) - 1) = (l : Int) - 1 := IntWalk.i64_in _ (by omega)
  have hw2 : IntKind.i64.wrap (((l : Int) - 1) * W) = ((l : Int) - 1) * W := IntWalk.i64_in _ (by omega)
  go_enter Try.func69, Try.ntmps69
  go_wp2_with fail
  go_region_held3 (fun w' => w'.cell? ⟨w.heap.size, 0, none⟩ = some (.slice A n c) ∧ w'.cell? ⟨w.heap.size, 1, none⟩ = some (.slice B m d) ∧ w'.cell? ⟨w.heap.size, 2, none⟩ = some (.slice C l f)) (go_keep)
    (first
      | (go_at_call 109; refine (l20Worst_any ((k.below (below_alloc w (.cells #[.slice A n c, .slice B m d, .slice C l f] 32))).qt (Qt.drewN (Qt.refl _) 1)) h0 h1 Hc.out).mono ?_; rw [HW.out]; rintro e w1 ⟨rfl, hb⟩; have hz := hb.size; (try simp at hz); (try (refine bat_k hb w.heap.size ?_ ?_; (focus first | omega | (simp; done) | (simp; omega)); intro hc0 hf0 hs0))))
  go_wp2_with fail
  go_ret
  exact ⟨rfl, by repeat (first | (with_reducible exact Below.refl _ _) | (with_reducible assumption) | (with_reducible refine Below.drew ?_) | (with_reducible refine below_drewN ?_ _) | ((with_reducible refine Below.setCell ?_ ?_ _); rotate_left; (focus first | omega | (simp; done) | (simp; omega))) | ((with_reducible refine Below.alloc ?_ ?_ _); rotate_left; (focus first | omega | (simp; done) | (simp; omega))) | (refine Below.trans ?_ (Below.mono (by assumption) (by first | omega | (simp; done) | (simp; omega)))))⟩

theorem Min_any {w : World} {A : Option Addr} {n c : Nat} {xs : List Int} (h : RI w A n c xs) (hn : 1 ≤ n) :
    Calls Try.prog 110 #[.slice A n c] w fun e w' => e = .returned (.int .i64 (mnOf xs)) ∧ w = w' := by
  have hle := h.le
  have hlen := Lib.hid h.len
  obtain ⟨b, o, rfl, hb, hcs, hc⟩ := h.at_ (k := 0) (by omega)
  have Hcs := Lib.hid hcs
  clear hcs
  rw [Nat.add_zero] at hc
  go_enter Try.func110, Try.ntmps110
  go_wp2_with fail
  go_loop [3, 4] (fun m i => ∃ (k : Nat) (x : Int), 1 ≤ k ∧ k ≤ n ∧ i = .int .i64 k ∧ m = .int .i64 x ∧ Hid (x = mnOf (xs.take k))) (fun _ i => n - (intOf i).toNat)
  case atStart =>
    refine ⟨1, gi xs 0, by omega, by omega, rfl, rfl, ?_⟩
    show _ = _
    match xs, hlen with
    | [], hl => exact absurd hl.out (by simp; omega)
    | y :: ys, _ => simp [mnOf, gi]
  case round =>
    obtain ⟨k, x, hk1, hk, rfl, rfl, hx⟩ := hrel
    by_cases hlt : k < n
    · have hc2 := Hcs.out k hlt
      have hnew : Hid (min x (gi xs k) = mnOf (xs.take (k + 1))) := by
        show _ = _
        rw [take_gi (by rw [hlen.out]; exact hlt), hx.out]
        match xs, hlen with
        | [], hl => exact absurd hl.out (by simp; omega)
        | y :: ys, _ =>
          obtain ⟨k, rfl⟩ : ∃ j, k = j + 1 := ⟨k - 1, by omega⟩
          simp [mnOf, List.foldl_append]
      by_cases hmin : gi xs k < x
      · have e1 : Hid (gi xs k = min x (gi xs k)) := by show _ = _; omega
        go_wp2_with fail
        go_round
        case rel => exact ⟨k + 1, _, by omega, by omega, by go_num, rfl, by show _ = _; rw [← hnew.out]; exact e1.out⟩
        case measure => simp [intOf]; omega
      · have e1 : Hid (x = min x (gi xs k)) := by show _ = _; omega
        go_wp2_with fail
        go_round
        case rel => exact ⟨k + 1, _, by omega, by omega, by go_num, rfl, by show _ = _; rw [← hnew.out]; exact e1.out⟩
        case measure => simp [intOf]; omega
    · have hfin : Hid (x = mnOf xs) := by show _ = _; rw [hx.out, take_all (by have := hlen.out; omega)]
      go_wp2_with fail
      go_ret
      exact ⟨ret_int hfin.out, rfl⟩

theorem mnOf_mem {xs : List Int} (h : xs ≠ []) : mnOf xs ∈ xs := by
  have key : ∀ (l : List Int) (m : Int), l.foldl (fun m c => min m c) m = m ∨ l.foldl (fun m c => min m c) m ∈ l := by
    intro l
    induction l with
    | nil => intro m; exact .inl rfl
    | cons c l ih =>
      intro m
      simp only [List.foldl_cons]
      rcases ih (min m c) with h1 | h1
      · rw [h1]
        rcases Int.le_total m c with h2 | h2
        · left; omega
        · right; rw [Int.min_eq_right h2]; simp
      · right; simp [h1]
  match xs, h with
  | y :: ys, _ =>
    unfold mnOf
    simp only [List.tail_cons, List.headD_cons]
    rcases key ys y with h1 | h1
    · rw [h1]; simp
    · simp [h1]

set_option maxHeartbeats 400000 in
theorem creditBound_any {w : World} {A B C : Option Addr} {n c m d l f : Nat} {a : Wt} {bd : Int} (hok : WOk a bd) (hn : n = a.a.owner.length) (hl : l = a.a.owner.length) (k : RII w C l f a.cost) (h0 : 0 ≤ bd) (h1 : bd ≤ 1000000000) :
    Calls Try.prog 70 #[.agg #[.slice A n c, .slice B m d, .slice C l f]] w fun e w' => e = .returned (.int .i64 (boundB a)) ∧ Below w.heap.size w w' := by
  have b0 := worst_bd hok h0
  have b1 := bound_bd hok h0
  have n1 := hok.n1
  have n24 := hok.n24
  have Hc := Lib.hid hok.cost_bd
  have Hdeg := Lib.hid (show ∀ v, v < n → 1 ≤ (gl a.cost v).length from fun v hv => by
    have := hok.deg v (by omega)
    have := hok.row v (by omega)
    omega)
  have kle := k.le
  have klen := Lib.hid k.len
  unfold boundB at *
  obtain rfl : n = l := by omega
  rw [← hl] at b1 n1 n24 ⊢
  generalize hW : worstB a = W at *
  have HW := Lib.hid hW
  have Hl := Lib.hid hl
  clear hW hok hl hn
  obtain ⟨b2, b3⟩ := b1
  go_enter Try.func70, Try.ntmps70
  go_wp2_with fail
  go_loop [3, 5, 9] (fun m _ i => ∃ (v : Nat) (x : Int), v ≤ n ∧ i = .int .i64 v ∧ m = .int .i64 x ∧ Hid (x = -mxNeg (a.cost.take v).flatten)) (fun _ _ i => n - (intOf i).toNat)
  case atStart => exact ⟨0, 0, by omega, rfl, rfl, rfl⟩
  case round =>
    obtain ⟨v, x, hv, rfl, rfl, hx⟩ := hrel
    by_cases hlt : v < n
    · obtain ⟨b3, o3, A3, n3, c3, rfl, hb3, hc3, hri3⟩ := k.at_ hlt
      have hn3 : 1 ≤ n3 := by rw [← hri3.len]; exact Hdeg.out v hlt
      have hne : gl a.cost v ≠ [] := by intro h; have := hri3.len; rw [h] at this; simp at this; omega
      have hnew := Lib.hid (show min x (mnOf (gl a.cost v)) = -mxNeg (a.cost.take (v + 1)).flatten by rw [flat_succ (by rw [klen.out]; exact hlt), mxNeg_append hne, ← hx.out])
      clear hne
      by_cases hmin : mnOf (gl a.cost v) < x
      · have e1 : Hid (mnOf (gl a.cost v) = min x (mnOf (gl a.cost v))) := by show _ = _; omega
        go_wp2_with (go_at_call 110; refine (Min_any (hri3.below (by repeat (first | (with_reducible exact Below.refl _ _) | (with_reducible assumption) | (with_reducible refine Below.drew ?_) | (with_reducible refine below_drewN ?_ _) | ((with_reducible refine Below.setCell ?_ ?_ _); rotate_left; (focus first | omega | (simp; done) | (simp; omega))) | ((with_reducible refine Below.alloc ?_ ?_ _); rotate_left; (focus first | omega | (simp; done) | (simp; omega))) | (refine Below.trans ?_ (Below.mono (by assumption) (by first | omega | (simp; done) | (simp; omega))))))) hn3).mono ?_; rintro e w1 ⟨rfl, rfl⟩)
        go_round
        case rel => exact ⟨v + 1, _, by omega, by go_num, rfl, by show _ = _; rw [← hnew.out]; exact e1.out⟩
        case measure => simp [intOf]; omega
      · have e1 : Hid (x = min x (mnOf (gl a.cost v))) := by show _ = _; omega
        go_wp2_with (go_at_call 110; refine (Min_any (hri3.below (by repeat (first | (with_reducible exact Below.refl _ _) | (with_reducible assumption) | (with_reducible refine Below.drew ?_) | (with_reducible refine below_drewN ?_ _) | ((with_reducible refine Below.setCell ?_ ?_ _); rotate_left; (focus first | omega | (simp; done) | (simp; omega))) | ((with_reducible refine Below.alloc ?_ ?_ _); rotate_left; (focus first | omega | (simp; done) | (simp; omega))) | (refine Below.trans ?_ (Below.mono (by assumption) (by first | omega | (simp; done) | (simp; omega))))))) hn3).mono ?_; rintro e w1 ⟨rfl, rfl⟩)
        go_round
        case rel => exact ⟨v + 1, _, by omega, by go_num, rfl, by show _ = _; rw [← hnew.out]; exact e1.out⟩
        case measure => simp [intOf]; omega
    · have hfin : x = -W := by
        rw [hx.out, take_all2 (by have := klen.out; omega)]
        have := HW.out
        unfold worstB at this
        rw [this]
      subst hfin
      have e2 : - -W = W := by omega
      go_wp2_with (go_at_call 108; refine size_any.mono ?_; rintro e w1 ⟨rfl, hb⟩; have hz := hb.size; (try simp at hz); (try (refine bat_k hb w.heap.size ?_ ?_; (focus first | omega | (simp; done) | (simp; omega)); intro hc0 hf0 hs0)); (try (refine bat_k hb (w.heap.size + 1) ?_ ?_; (focus first | omega | (simp; done) | (simp; omega)); intro hc1 hf1 hs1)))
      go_ret
      exact ⟨rfl, by repeat (first | (with_reducible exact Below.refl _ _) | (with_reducible assumption) | (with_reducible refine Below.drew ?_) | (with_reducible refine below_drewN ?_ _) | ((with_reducible refine Below.setCell ?_ ?_ _); rotate_left; (focus first | omega | (simp; done) | (simp; omega))) | ((with_reducible refine Below.alloc ?_ ?_ _); rotate_left; (focus first | omega | (simp; done) | (simp; omega))) | (refine Below.trans ?_ (Below.mono (by assumption) (by first | omega | (simp; done) | (simp; omega)))))⟩

def creditBoundB (a : Wt) : Int := if weightedB a then boundB a else -1

theorem CreditBoundS_any {w : World} {A B C : Option Addr} {n c m d l f : Nat} {a : Wt} (h : RI w A n c a.a.owner) (g : RII w B m d a.a.next) (k : RII w C l f a.cost) :
    Calls Try.prog 22 #[.agg #[.slice A n c, .slice B m d, .slice C l f]] w (Got w (.int .i64 (creditBoundB a))) := by
  rcases hw : weightedB a with _ | _
  · have Hr := Lib.hid (show creditBoundB a = -1 by unfold creditBoundB; rw [hw]; rfl)
    have Hw := Lib.hid hw
    clear hw
    go_enter Try.func22, Try.ntmps22
    go_wp2_with (go_at_call 16; refine (WeightedOkS_any (h.below (by repeat (first | (with_reducible exact Below.refl _ _) | (with_reducible assumption) | (with_reducible refine Below.drew ?_) | (with_reducible refine below_drewN ?_ _) | ((with_reducible refine Below.setCell ?_ ?_ _); rotate_left; (focus first | omega | (simp; done) | (simp; omega))) | ((with_reducible refine Below.alloc ?_ ?_ _); rotate_left; (focus first | omega | (simp; done) | (simp; omega))) | (refine Below.trans ?_ (Below.mono (by assumption) (by first | omega | (simp; done) | (simp; omega))))))) (g.below (by repeat (first | (with_reducible exact Below.refl _ _) | (with_reducible assumption) | (with_reducible refine Below.drew ?_) | (with_reducible refine below_drewN ?_ _) | ((with_reducible refine Below.setCell ?_ ?_ _); rotate_left; (focus first | omega | (simp; done) | (simp; omega))) | ((with_reducible refine Below.alloc ?_ ?_ _); rotate_left; (focus first | omega | (simp; done) | (simp; omega))) | (refine Below.trans ?_ (Below.mono (by assumption) (by first | omega | (simp; done) | (simp; omega))))))) (k.below (by repeat (first | (with_reducible exact Below.refl _ _) | (with_reducible assumption) | (with_reducible refine Below.drew ?_) | (with_reducible refine below_drewN ?_ _) | ((with_reducible refine Below.setCell ?_ ?_ _); rotate_left; (focus first | omega | (simp; done) | (simp; omega))) | ((with_reducible refine Below.alloc ?_ ?_ _); rotate_left; (focus first | omega | (simp; done) | (simp; omega))) | (refine Below.trans ?_ (Below.mono (by assumption) (by first | omega | (simp; done) | (simp; omega)))))))).mono ?_; rw [Hw.out]; rintro e w1 ⟨rfl, hb⟩; have hz := hb.size; (try simp at hz); (try (refine bat_k hb w.heap.size ?_ ?_; (focus first | omega | (simp; done) | (simp; omega)); intro hc0 hf0 hs0)); (try (refine bat_k hb (w.heap.size + 1) ?_ ?_; (focus first | omega | (simp; done) | (simp; omega)); intro hc1 hf1 hs1)))
    go_ret
    exact ⟨by rw [Hr.out]; rfl, by repeat (first | (with_reducible exact Below.refl _ _) | (with_reducible assumption) | (with_reducible refine Below.drew ?_) | (with_reducible refine below_drewN ?_ _) | ((with_reducible refine Below.setCell ?_ ?_ _); rotate_left; (focus first | omega | (simp; done) | (simp; omega))) | ((with_reducible refine Below.alloc ?_ ?_ _); rotate_left; (focus first | omega | (simp; done) | (simp; omega))) | (refine Below.trans ?_ (Below.mono (by assumption) (by first | omega | (simp; done) | (simp; omega)))))⟩
  · have Hr := Lib.hid (show creditBoundB a = boundB a by unfold creditBoundB; rw [hw]; rfl)
    have hok := wok_of hw
    have hl : l = a.a.owner.length := by have := k.len; have := hok.cost; omega
    have Hw := Lib.hid hw
    have Hl := Lib.hid hl
    clear hw hl
    go_enter Try.func22, Try.ntmps22
    go_wp2_with (first
      | (go_at_call 16; refine (WeightedOkS_any (h.below (by repeat (first | (with_reducible exact Below.refl _ _) | (with_reducible assumption) | (with_reducible refine Below.drew ?_) | (with_reducible refine below_drewN ?_ _) | ((with_reducible refine Below.setCell ?_ ?_ _); rotate_left; (focus first | omega | (simp; done) | (simp; omega))) | ((with_reducible refine Below.alloc ?_ ?_ _); rotate_left; (focus first | omega | (simp; done) | (simp; omega))) | (refine Below.trans ?_ (Below.mono (by assumption) (by first | omega | (simp; done) | (simp; omega))))))) (g.below (by repeat (first | (with_reducible exact Below.refl _ _) | (with_reducible assumption) | (with_reducible refine Below.drew ?_) | (with_reducible refine below_drewN ?_ _) | ((with_reducible refine Below.setCell ?_ ?_ _); rotate_left; (focus first | omega | (simp; done) | (simp; omega))) | ((with_reducible refine Below.alloc ?_ ?_ _); rotate_left; (focus first | omega | (simp; done) | (simp; omega))) | (refine Below.trans ?_ (Below.mono (by assumption) (by first | omega | (simp; done) | (simp; omega))))))) (k.below (by repeat (first | (with_reducible exact Below.refl _ _) | (with_reducible assumption) | (with_reducible refine Below.drew ?_) | (with_reducible refine below_drewN ?_ _) | ((with_reducible refine Below.setCell ?_ ?_ _); rotate_left; (focus first | omega | (simp; done) | (simp; omega))) | ((with_reducible refine Below.alloc ?_ ?_ _); rotate_left; (focus first | omega | (simp; done) | (simp; omega))) | (refine Below.trans ?_ (Below.mono (by assumption) (by first | omega | (simp; done) | (simp; omega)))))))).mono ?_; rw [Hw.out]; rintro e w1 ⟨rfl, hb⟩; have hz := hb.size; (try simp at hz); (try (refine bat_k hb w.heap.size ?_ ?_; (focus first | omega | (simp; done) | (simp; omega)); intro hc0 hf0 hs0)); (try (refine bat_k hb (w.heap.size + 1) ?_ ?_; (focus first | omega | (simp; done) | (simp; omega)); intro hc1 hf1 hs1)))
      | (go_at_call 69; refine (l20Bound_any hok Hl.out (k.below (by repeat (first | (with_reducible exact Below.refl _ _) | (with_reducible assumption) | (with_reducible refine Below.drew ?_) | (with_reducible refine below_drewN ?_ _) | ((with_reducible refine Below.setCell ?_ ?_ _); rotate_left; (focus first | omega | (simp; done) | (simp; omega))) | ((with_reducible refine Below.alloc ?_ ?_ _); rotate_left; (focus first | omega | (simp; done) | (simp; omega))) | (refine Below.trans ?_ (Below.mono (by assumption) (by first | omega | (simp; done) | (simp; omega))))))) (by omega) (by omega)).mono ?_; rintro e w1 ⟨rfl, hb⟩; have hz := hb.size; (try simp at hz); (try (refine bat_k hb w.heap.size ?_ ?_; (focus first | omega | (simp; done) | (simp; omega)); intro hc0 hf0 hs0)); (try (refine bat_k hb (w.heap.size + 1) ?_ ?_; (focus first | omega | (simp; done) | (simp; omega)); intro hc1 hf1 hs1))))
    go_ret
    exact ⟨by rw [Hr.out]; rfl, by repeat (first | (with_reducible exact Below.refl _ _) | (with_reducible assumption) | (with_reducible refine Below.drew ?_) | (with_reducible refine below_drewN ?_ _) | ((with_reducible refine Below.setCell ?_ ?_ _); rotate_left; (focus first | omega | (simp; done) | (simp; omega))) | ((with_reducible refine Below.alloc ?_ ?_ _); rotate_left; (focus first | omega | (simp; done) | (simp; omega))) | (refine Below.trans ?_ (Below.mono (by assumption) (by first | omega | (simp; done) | (simp; omega)))))⟩

theorem CreditBoundI_any {w : World} {A B C : Option Addr} {n c m d l f : Nat} {a : Wt} (h : RI w A n c a.a.owner) (g : RII w B m d a.a.next) (k : RII w C l f a.cost) :
    Calls Try.prog 23 #[.agg #[.slice A n c, .slice B m d, .slice C l f]] w (Got w (.int .i64 (creditBoundB a))) := by
  rcases hw : weightedB a with _ | _
  · have Hr := Lib.hid (show creditBoundB a = -1 by unfold creditBoundB; rw [hw]; rfl)
    have Hw := Lib.hid hw
    clear hw
    go_enter Try.func23, Try.ntmps23
    go_wp2_with (go_at_call 62; refine (isWeighted_any (h.below (by repeat (first | (with_reducible exact Below.refl _ _) | (with_reducible assumption) | (with_reducible refine Below.drew ?_) | (with_reducible refine below_drewN ?_ _) | ((with_reducible refine Below.setCell ?_ ?_ _); rotate_left; (focus first | omega | (simp; done) | (simp; omega))) | ((with_reducible refine Below.alloc ?_ ?_ _); rotate_left; (focus first | omega | (simp; done) | (simp; omega))) | (refine Below.trans ?_ (Below.mono (by assumption) (by first | omega | (simp; done) | (simp; omega))))))) (g.below (by repeat (first | (with_reducible exact Below.refl _ _) | (with_reducible assumption) | (with_reducible refine Below.drew ?_) | (with_reducible refine below_drewN ?_ _) | ((with_reducible refine Below.setCell ?_ ?_ _); rotate_left; (focus first | omega | (simp; done) | (simp; omega))) | ((with_reducible refine Below.alloc ?_ ?_ _); rotate_left; (focus first | omega | (simp; done) | (simp; omega))) | (refine Below.trans ?_ (Below.mono (by assumption) (by first | omega | (simp; done) | (simp; omega))))))) (k.below (by repeat (first | (with_reducible exact Below.refl _ _) | (with_reducible assumption) | (with_reducible refine Below.drew ?_) | (with_reducible refine below_drewN ?_ _) | ((with_reducible refine Below.setCell ?_ ?_ _); rotate_left; (focus first | omega | (simp; done) | (simp; omega))) | ((with_reducible refine Below.alloc ?_ ?_ _); rotate_left; (focus first | omega | (simp; done) | (simp; omega))) | (refine Below.trans ?_ (Below.mono (by assumption) (by first | omega | (simp; done) | (simp; omega)))))))).mono ?_; rw [Hw.out]; rintro e w1 ⟨rfl, hb⟩; have hz := hb.size; (try simp at hz); (try (refine bat_k hb w.heap.size ?_ ?_; (focus first | omega | (simp; done) | (simp; omega)); intro hc0 hf0 hs0)); (try (refine bat_k hb (w.heap.size + 1) ?_ ?_; (focus first | omega | (simp; done) | (simp; omega)); intro hc1 hf1 hs1)))
    go_ret
    exact ⟨by rw [Hr.out]; rfl, by repeat (first | (with_reducible exact Below.refl _ _) | (with_reducible assumption) | (with_reducible refine Below.drew ?_) | (with_reducible refine below_drewN ?_ _) | ((with_reducible refine Below.setCell ?_ ?_ _); rotate_left; (focus first | omega | (simp; done) | (simp; omega))) | ((with_reducible refine Below.alloc ?_ ?_ _); rotate_left; (focus first | omega | (simp; done) | (simp; omega))) | (refine Below.trans ?_ (Below.mono (by assumption) (by first | omega | (simp; done) | (simp; omega)))))⟩
  · have Hr := Lib.hid (show creditBoundB a = boundB a by unfold creditBoundB; rw [hw]; rfl)
    have hok := wok_of hw
    have hl : l = a.a.owner.length := by have := k.len; have := hok.cost; omega
    have Hn := Lib.hid h.len.symm
    have Hw := Lib.hid hw
    have Hl := Lib.hid hl
    clear hw hl
    go_enter Try.func23, Try.ntmps23
    go_wp2_with (first
      | (go_at_call 62; refine (isWeighted_any (h.below (by repeat (first | (with_reducible exact Below.refl _ _) | (with_reducible assumption) | (with_reducible refine Below.drew ?_) | (with_reducible refine below_drewN ?_ _) | ((with_reducible refine Below.setCell ?_ ?_ _); rotate_left; (focus first | omega | (simp; done) | (simp; omega))) | ((with_reducible refine Below.alloc ?_ ?_ _); rotate_left; (focus first | omega | (simp; done) | (simp; omega))) | (refine Below.trans ?_ (Below.mono (by assumption) (by first | omega | (simp; done) | (simp; omega))))))) (g.below (by repeat (first | (with_reducible exact Below.refl _ _) | (with_reducible assumption) | (with_reducible refine Below.drew ?_) | (with_reducible refine below_drewN ?_ _) | ((with_reducible refine Below.setCell ?_ ?_ _); rotate_left; (focus first | omega | (simp; done) | (simp; omega))) | ((with_reducible refine Below.alloc ?_ ?_ _); rotate_left; (focus first | omega | (simp; done) | (simp; omega))) | (refine Below.trans ?_ (Below.mono (by assumption) (by first | omega | (simp; done) | (simp; omega))))))) (k.below (by repeat (first | (with_reducible exact Below.refl _ _) | (with_reducible assumption) | (with_reducible refine Below.drew ?_) | (with_reducible refine below_drewN ?_ _) | ((with_reducible refine Below.setCell ?_ ?_ _); rotate_left; (focus first | omega | (simp; done) | (simp; omega))) | ((with_reducible refine Below.alloc ?_ ?_ _); rotate_left; (focus first | omega | (simp; done) | (simp; omega))) | (refine Below.trans ?_ (Below.mono (by assumption) (by first | omega | (simp; done) | (simp; omega)))))))).mono ?_; rw [Hw.out]; rintro e w1 ⟨rfl, hb⟩; have hz := hb.size; (try simp at hz); (try (refine bat_k hb w.heap.size ?_ ?_; (focus first | omega | (simp; done) | (simp; omega)); intro hc0 hf0 hs0)); (try (refine bat_k hb (w.heap.size + 1) ?_ ?_; (focus first | omega | (simp; done) | (simp; omega)); intro hc1 hf1 hs1)))
      | (go_at_call 70; refine (creditBound_any hok Hn.out Hl.out (k.below (by repeat (first | (with_reducible exact Below.refl _ _) | (with_reducible assumption) | (with_reducible refine Below.drew ?_) | (with_reducible refine below_drewN ?_ _) | ((with_reducible refine Below.setCell ?_ ?_ _); rotate_left; (focus first | omega | (simp; done) | (simp; omega))) | ((with_reducible refine Below.alloc ?_ ?_ _); rotate_left; (focus first | omega | (simp; done) | (simp; omega))) | (refine Below.trans ?_ (Below.mono (by assumption) (by first | omega | (simp; done) | (simp; omega))))))) (by omega) (by omega)).mono ?_; rintro e w1 ⟨rfl, hb⟩; have hz := hb.size; (try simp at hz); (try (refine bat_k hb w.heap.size ?_ ?_; (focus first | omega | (simp; done) | (simp; omega)); intro hc0 hf0 hs0)); (try (refine bat_k hb (w.heap.size + 1) ?_ ?_; (focus first | omega | (simp; done) | (simp; omega)); intro hc1 hf1 hs1))))
    go_ret
    exact ⟨by rw [Hr.out]; rfl, by repeat (first | (with_reducible exact Below.refl _ _) | (with_reducible assumption) | (with_reducible refine Below.drew ?_) | (with_reducible refine below_drewN ?_ _) | ((with_reducible refine Below.setCell ?_ ?_ _); rotate_left; (focus first | omega | (simp; done) | (simp; omega))) | ((with_reducible refine Below.alloc ?_ ?_ _); rotate_left; (focus first | omega | (simp; done) | (simp; omega))) | (refine Below.trans ?_ (Below.mono (by assumption) (by first | omega | (simp; done) | (simp; omega)))))⟩
end Go.Proofs.Ytfmkomllnojkjaa
