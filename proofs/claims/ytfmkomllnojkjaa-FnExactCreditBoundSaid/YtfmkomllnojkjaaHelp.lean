/- Contracts of the statements' helpers on slices of numbers: sz, to, eq. -/
import Derived.Test.YtfmkomllnojkjaaArena
namespace Go.Proofs.Ytfmkomllnojkjaa
open Go.ChangeShapes Go.WideShapes Go.ChangeAt Go.RowKit
set_option linter.unusedVariables false
set_option linter.unusedSimpArgs false

theorem szInt64S_any (A : Option Addr) (n c : Nat) (left : Int) (w : World) (h0 : 0 ≤ left) (h1 : left ≤ 1048576) (hn : n ≤ 9223372036854775807) :
    Calls Try.prog 71 #[.slice A n c, .int .i64 left] w fun e w' => e = .returned (.int .i64 (if left - n < 0 then -1 else left - n)) ∧ w = w' := by
  by_cases h : left - n < 0
  · rw [if_pos h]
    go_enter Try.func71, Try.ntmps71
    go_wp2
    go_ret
    exact ⟨rfl, rfl⟩
  · rw [if_neg h]
    go_enter Try.func71, Try.ntmps71
    go_wp2
    go_ret
    exact ⟨rfl, rfl⟩

theorem info_int : (Try.prog.info? 2).map (fun i => (i.zero, i.size, i.bytes)) = some (some (.int .i64 0), 1, 8) := by kernel_rfl
theorem info_ints : (Try.prog.info? 22).map (fun i => (i.zero, i.size, i.bytes)) = some (some (.slice none 0 0), 1, 24) := by kernel_rfl
def zeros (n : Nat) : Array Value := madeCells #[.int .i64 0] n
def nils (n : Nat) : Array Value := madeCells #[.slice none 0 0] n
theorem make_ints (n : Nat) (hn : n ≤ 1048576) : ∀ W : World, (Instr.makeSlice 22 (.int .i64 (n : Int)) (.int .i64 (n : Int))).run Try.prog W = .ok (.slice (some ⟨W.heap.size, 0, none⟩) n n) (W.alloc (.cells (zeros n) 2)) := by
  intro W
  obtain ⟨i, hi, hz, hs, hb⟩ := info_parts info_int
  have hr := run_make (P := Try.prog) W 22 2 i _ Try.underlying22 hi hz .i64 .i64 n n (by omega) (Int.le_refl _) (by rw [hb]; omega) (by omega)
  simp only [Int.toNat_natCast, hs, Nat.mul_one] at hr
  exact hr
theorem make_rows (n : Nat) (hn : n ≤ 1048576) : ∀ W : World, (Instr.makeSlice 23 (.int .i64 (n : Int)) (.int .i64 (n : Int))).run Try.prog W = .ok (.slice (some ⟨W.heap.size, 0, none⟩) n n) (W.alloc (.cells (nils n) 22)) := by
  intro W
  obtain ⟨i, hi, hz, hs, hb⟩ := info_parts info_ints
  have hr := run_make (P := Try.prog) W 23 22 i _ Try.underlying23 hi hz .i64 .i64 n n (by omega) (Int.le_refl _) (by rw [hb]; omega) (by omega)
  simp only [Int.toNat_natCast, hs, Nat.mul_one] at hr
  exact hr

theorem toInt64S_any {w : World} {A : Option Addr} {n c : Nat} {xs : List Int} (h : RI w A n c xs) (hn : n ≤ 1048576) :
    Calls Try.prog 44 #[.slice A n c] w fun e w' => e = .returned (.slice (some ⟨w.heap.size, 0, none⟩) n n) ∧ w' = w.alloc (.cells (ints xs).toArray 2) := by
  have hle := h.le
  have hmk := make_ints n hn
  have hlen := Lib.hid h.len
  go_enter Try.func44, Try.ntmps44
  go_wp2
  go_loopw [4] (fun i wr => ∃ k : Nat, k ≤ n ∧ i = .int .i64 k ∧ ∃ cs : Array Value, Hid (cs.size = n) ∧ Hid (cs.toList.take k = ints (xs.take k)) ∧ wr = w.alloc (.cells cs 2)) (fun i _ => n - (intOf i).toNat)
  case atStart => exact ⟨0, by omega, rfl, zeros n, by simp [zeros, size_madeCells, Hid], by simp [ints, Hid], rfl⟩
  case round =>
    obtain ⟨k, hk, rfl, cs, hcs, hall, rfl⟩ := hrel
    clear hmk
    by_cases hlt : k < n
    · obtain ⟨b, o, rfl, hb, _, hc⟩ := h.at_ hlt
      have hsz : k < cs.size := by rw [hcs.out]; exact hlt
      go_wp2
      go_roundw
      case rel =>
        refine ⟨k + 1, by omega, by go_num, _, ?_, ?_, rfl⟩
        · show _ = _; rw [Array.size_setIfInBounds]; exact hcs.out
        · show _ = _; rw [Array.toList_setIfInBounds, take_set_snoc (by simpa using hsz), hall.out, ints_take_succ (by rw [hlen.out]; exact hlt)]
      case measure => simp [intOf]; omega
    · have hkn : k = n := by omega
      have hfin : Hid (w.alloc (.cells cs 2) = w.alloc (.cells (ints xs).toArray 2)) := by
        have h1 := hall.out
        rw [hkn, List.take_of_length_le (by simp [hcs.out]), List.take_of_length_le (by rw [hlen.out]; exact Nat.le_refl _)] at h1
        show _ = _
        rw [← h1]
      clear hkn
      go_wp2
      go_ret
      exact ⟨rfl, hfin.out⟩

/-- What 'toInt64SS' comes to. -/
def ToII (w : World) (rows : List (List Int)) (e : Ending) (w' : World) : Prop :=
  ∃ A n c vals, e = .returned (.slice A n c) ∧ OII w' w.heap.size A n c vals rows ∧ Below w.heap.size w w'

set_option maxHeartbeats 400000 in
theorem toInt64SS_p {w : World} {A : Option Addr} {n c : Nat} {rows : List (List Int)} (h : RII w A n c rows) (hn : n ≤ 1048576) (hr : ∀ r ∈ rows, r.length ≤ 1048576) :
    Calls Try.prog 61 #[.slice A n c] w (ToII w rows) := by
  have hle := h.le
  have hmk := make_rows n hn
  have hlen := Lib.hid h.len
  go_enter Try.func61, Try.ntmps61
  go_wp2_with fail
  go_loopw [4] (fun i wr => ∃ k : Nat, k ≤ n ∧ i = .int .i64 k ∧ ∃ (cs : Array Value) (vals : List Value), Hid (cs.size = n) ∧ Hid (cs.toList.take k = vals) ∧ Hid (wr.heap[w.heap.size]? = some (.cells cs 22 (0, 0))) ∧
    RowsOwn wr (w.heap.size + 1) vals (rows.take k) ∧ Below w.heap.size w wr) (fun i _ => n - (intOf i).toNat)
  case atStart =>
    refine ⟨0, by omega, rfl, nils n, [], by simp [nils, size_madeCells, Hid], by simp [Hid], heap_alloc_new w _, ?_, below_alloc w _⟩
    simpa using RowsOwn.nil_ _ _
  case round =>
    obtain ⟨k, hk, rfl, cs, vals, hcs, hall, hblk, hrow, hb⟩ := hrel
    clear hmk
    have hgl := blk_lt hblk.out
    by_cases hlt : k < n
    · obtain ⟨b, o, A', n', c', rfl, hbl, hc, hri⟩ := (h.below hb).at_ hlt
      have hfr := blk_frozen (k := k) hblk.out
      obtain ⟨u, hcell⟩ := blk_cell (k := k) hblk.out (by rw [hcs.out]; exact hlt)
      have hn' : n' ≤ 1048576 := by rw [← hri.len]; exact hr _ (gl_mem (by rw [hlen.out]; exact hlt))
      go_wp2_with (go_at_call 44; refine (toInt64S_any hri hn').mono ?_; rintro e w1 ⟨rfl, rfl⟩)
      rw [← World.setCell_alloc_past _ _ _ _ hgl]
      go_roundw
      case rel =>
        refine ⟨k + 1, by omega, by go_num, _, vals ++ [.slice (some ⟨wr.heap.size, 0, none⟩) n' n'], ?_, ?_, blk_set _ (blk_alloc hblk.out), ?_, ?_⟩
        · show _ = _; rw [Array.size_setIfInBounds]; exact hcs.out
        · show _ = _; rw [Array.toList_setIfInBounds, take_set_snoc (by simpa [hcs.out] using hlt), hall.out]
        · rw [rows_take_succ (by rw [hlen.out]; exact hlt)]
          have hoi := oi_new wr (gl rows k) (by have := hri.le; rw [hri.len]; exact this) hri.rng
          rw [hri.len] at hoi
          refine ((hrow.below (below_alloc wr _)).snoc (hoi.mono (by omega)) ?_).same (same_set _ _ _ _) ?_
          · intro b' hb'
            simp [Value.ownBlock] at hb'
            subst hb'
            intro hm
            have := hrow.blk _ hm
            omega
          · intro b' hb'
            have hb2 : b' ∈ bks vals ∨ b' = wr.heap.size := by
              unfold bks at hb' ⊢
              rw [List.filterMap_append, List.mem_append] at hb'
              rcases hb' with h1 | h1
              · exact .inl h1
              · right; simpa [Value.ownBlock] using h1
            rcases hb2 with h1 | h1
            · have := hrow.blk _ h1; omega
            · omega
        · exact (hb.alloc hb.size _).setCell (Nat.le_refl _) _
      case measure => simp [intOf]; omega
    · have hkn : k = n := by omega
      have hfin : OII wr w.heap.size (some ⟨w.heap.size, 0, none⟩) n n vals rows := by
        have h1 := hall.out
        have hr2 := hrow
        rw [hkn, List.take_of_length_le (by rw [hlen.out]; exact Nat.le_refl _)] at hr2
        rw [hkn, List.take_of_length_le (by simp [hcs.out])] at h1
        refine ⟨⟨by rw [hr2.len, hlen.out, Nat.mul_one], .inr ⟨w.heap.size, n, cs, rfl, Nat.le_refl _, hblk.out, Nat.le_refl _, by unfold maxLen; omega, by rw [hcs.out, Nat.mul_one], ?_⟩⟩, hr2.mono (by omega)⟩
        rw [Nat.mul_one, List.take_of_length_le (by simp [hcs.out]), h1]
      clear hkn
      go_wp2
      go_ret
      exact ⟨_, _, _, _, rfl, hfin, hb⟩

/-! ### sizes -/
def sumLen (rows : List (List Int)) : Nat := (rows.map List.length).sum
def totLen (rows : List (List Int)) : Nat := rows.length + sumLen rows
theorem sumLen_succ {rows : List (List Int)} {k : Nat} (h : k < rows.length) : sumLen (rows.take (k + 1)) = sumLen (rows.take k) + (gl rows k).length := by
  rw [rows_take_succ h]; unfold sumLen; simp
theorem row_le_sum {rows : List (List Int)} {r : List Int} (h : r ∈ rows) : r.length ≤ sumLen rows := by
  induction rows with
  | nil => cases h
  | cons x rest ih =>
    unfold sumLen at *
    rcases List.mem_cons.1 h with rfl | h
    · simp
    · have := ih h; simp at this ⊢; omega

/-- What a 'sz' function comes to: -1, or what is left. -/
def SzP (left : Int) (total : Nat) (w : World) (e : Ending) (w' : World) : Prop :=
  ∃ r : Int, e = .returned (.int .i64 r) ∧ (r = -1 ∨ (0 ≤ r ∧ r + total = left)) ∧ Below w.heap.size w w'

theorem szInt64S_p {w : World} {A : Option Addr} {n c : Nat} {xs : List Int} (h : RI w A n c xs) (left : Int) (h0 : 0 ≤ left) (h1 : left ≤ 1048576) :
    Calls Try.prog 71 #[.slice A n c, .int .i64 left] w (SzP left xs.length w) := by
  refine (szInt64S_any A n c left w h0 h1 h.le).mono ?_
  rintro e w' ⟨rfl, rfl⟩
  refine ⟨_, rfl, ?_, Below.refl _ _⟩
  rw [h.len]
  split
  · exact .inl rfl
  · exact .inr ⟨by omega, by omega⟩

theorem szInt64SS_p {w : World} {A : Option Addr} {n c : Nat} {rows : List (List Int)} (h : RII w A n c rows) (left : Int) (h0 : 0 ≤ left) (h1 : left ≤ 1048576) :
    Calls Try.prog 57 #[.slice A n c, .int .i64 left] w (SzP left (totLen rows) w) := by
  have hle := h.le
  have hlen := Lib.hid h.len
  by_cases hs : left - n < 0
  · go_enter Try.func57, Try.ntmps57
    go_wp2_with fail
    go_ret
    exact ⟨-1, rfl, .inl rfl, Below.refl _ _⟩
  · go_enter Try.func57, Try.ntmps57
    go_wp2_with fail
    go_loopw [1, 5] (fun l i wr => ∃ (k : Nat) (m : Int), k ≤ n ∧ 0 ≤ m ∧ m ≤ 1048576 ∧ l = .int .i64 m ∧ i = .int .i64 k ∧ Hid (m + n + sumLen (rows.take k) = left) ∧ Below w.heap.size w wr) (fun _ i _ => n - (intOf i).toNat)
    case atStart => exact ⟨0, left - n, by omega, by omega, by omega, rfl, rfl, by show _ = _; simp [sumLen], Below.refl _ _⟩
    case round =>
      obtain ⟨k, m, hk, hm0, hm1, rfl, rfl, hsum, hb⟩ := hrel
      by_cases hlt : k < n
      · obtain ⟨b, o, A', n', c', rfl, hbl, hc, hri⟩ := (h.below hb).at_ hlt
        go_wp2_with (go_at_call 71; refine (szInt64S_p hri _ (by omega) (by omega)).mono ?_; rintro e w1 ⟨r, rfl, hr, hb1⟩; have Hr := Lib.hid hr; clear hr)
        · go_ret
          exact ⟨-1, rfl, .inl rfl, hb.trans (hb1.mono hb.size)⟩
        · have hr := Hr.out
          have h2 : 0 ≤ r ∧ r + (gl rows k).length = m := by
            rcases hr with h3 | h3
            · omega
            · exact h3
          go_roundw
          case rel =>
            refine ⟨k + 1, r, by omega, by omega, by omega, rfl, by go_num, ?_, hb.trans (hb1.mono hb.size)⟩
            show _ = _
            have := hsum.out
            rw [sumLen_succ (by rw [hlen.out]; exact hlt)]
            omega
          case measure => simp [intOf]; omega
      · have hkn : k = n := by omega
        have hfin : SzP left (totLen rows) w (.returned (.int .i64 m)) wr := by
          refine ⟨m, rfl, .inr ⟨hm0, ?_⟩, hb⟩
          have := hsum.out
          rw [hkn, List.take_of_length_le (by rw [hlen.out]; exact Nat.le_refl _)] at this
          unfold totLen
          rw [hlen.out]
          omega
        have Hf := Lib.hid hfin
        clear hkn hfin
        go_wp2
        go_ret
        exact Hf.out

/-! ### arenas, weighted arenas, lassos -/
structure Ls where
  stem : List Int
  loop : List Int
def Ar.tot (a : Ar) : Nat := a.owner.length + totLen a.next
def Wt.tot (a : Wt) : Nat := a.a.tot + totLen a.cost
def Ls.tot (l : Ls) : Nat := l.stem.length + l.loop.length

theorem szArena_p {w : World} {A B : Option Addr} {n c m d : Nat} {a : Ar} (h : RI w A n c a.owner) (g : RII w B m d a.next) (left : Int) (h0 : 0 ≤ left) (h1 : left ≤ 1048576) :
    Calls Try.prog 56 #[.agg #[.slice A n c, .slice B m d], .int .i64 left] w (SzP left a.tot w) := by
  go_enter Try.func56, Try.ntmps56
  go_wp2_with fail
  refine (szInt64S_p (h.below (below_alloc w _)) _ h0 h1).mono ?_
  rintro e w1 ⟨r, rfl, hr, hb⟩
  have Hr := Lib.hid hr
  have hz := hb.size
  simp at hz
  (try (refine bat_k hb w.heap.size ?_ ?_; (focus first | omega | (simp; done) | (simp; omega)); intro hc0 hf0 hs0))
  by_cases hneg : r < 0
  · go_wp2_with fail
    go_ret
    exact ⟨-1, rfl, .inl rfl, by repeat (first | (with_reducible exact Below.refl _ _) | (with_reducible assumption) | (with_reducible refine Below.drew ?_) | (with_reducible refine below_drewN ?_ _) | ((with_reducible refine Below.setCell ?_ ?_ _); rotate_left; (focus first | omega | (simp; done) | (simp; omega))) | ((with_reducible refine Below.alloc ?_ ?_ _); rotate_left; (focus first | omega | (simp; done) | (simp; omega))) | (refine Below.trans ?_ (Below.mono (by assumption) (by first | omega | (simp; done) | (simp; omega)))))⟩
  · have h2 : 0 ≤ r ∧ r + a.owner.length = left := by
      rcases hr with h3 | h3
      · omega
      · exact h3
    clear hr
    obtain ⟨h3, h4⟩ := h2
    have H4 := Lib.hid h4
    have h5 : r ≤ 1048576 := by omega
    clear h4
    go_wp2_with fail
    refine (szInt64SS_p ((g.below (below_alloc w _)).below hb) _ h3 h5).mono ?_
    rintro e w2 ⟨r2, rfl, hr2, hb2⟩
    have Hr2 := Lib.hid hr2
    clear hr2
    go_wp2_with fail
    · go_ret
      exact ⟨-1, rfl, .inl rfl, by repeat (first | (with_reducible exact Below.refl _ _) | (with_reducible assumption) | (with_reducible refine Below.drew ?_) | (with_reducible refine below_drewN ?_ _) | ((with_reducible refine Below.setCell ?_ ?_ _); rotate_left; (focus first | omega | (simp; done) | (simp; omega))) | ((with_reducible refine Below.alloc ?_ ?_ _); rotate_left; (focus first | omega | (simp; done) | (simp; omega))) | (refine Below.trans ?_ (Below.mono (by assumption) (by first | omega | (simp; done) | (simp; omega)))))⟩
    · go_ret
      refine ⟨r2, rfl, ?_, by repeat (first | (with_reducible exact Below.refl _ _) | (with_reducible assumption) | (with_reducible refine Below.drew ?_) | (with_reducible refine below_drewN ?_ _) | ((with_reducible refine Below.setCell ?_ ?_ _); rotate_left; (focus first | omega | (simp; done) | (simp; omega))) | ((with_reducible refine Below.alloc ?_ ?_ _); rotate_left; (focus first | omega | (simp; done) | (simp; omega))) | (refine Below.trans ?_ (Below.mono (by assumption) (by first | omega | (simp; done) | (simp; omega)))))⟩
      rcases Hr2.out with h6 | h6
      · exact .inl h6
      · right
        have := H4.out
        unfold Ar.tot
        omega

theorem szWeighted_p {w : World} {A B C : Option Addr} {n c m d l f : Nat} {a : Wt} (h : RI w A n c a.a.owner) (g : RII w B m d a.a.next) (k : RII w C l f a.cost) (left : Int) (h0 : 0 ≤ left) (h1 : left ≤ 1048576) :
    Calls Try.prog 15 #[.agg #[.slice A n c, .slice B m d, .slice C l f], .int .i64 left] w (SzP left a.tot w) := by
  go_enter Try.func15, Try.ntmps15
  go_wp2_with fail
  refine (szArena_p (h.below (below_alloc w _)) (g.below (below_alloc w _)) _ h0 h1).mono ?_
  rintro e w1 ⟨r, rfl, hr, hb⟩
  have hz := hb.size
  simp at hz
  (try (refine bat_k hb w.heap.size ?_ ?_; (focus first | omega | (simp; done) | (simp; omega)); intro hc0 hf0 hs0))
  by_cases hneg : r < 0
  · clear hr
    go_wp2_with fail
    go_ret
    exact ⟨-1, rfl, .inl rfl, by repeat (first | (with_reducible exact Below.refl _ _) | (with_reducible assumption) | (with_reducible refine Below.drew ?_) | (with_reducible refine below_drewN ?_ _) | ((with_reducible refine Below.setCell ?_ ?_ _); rotate_left; (focus first | omega | (simp; done) | (simp; omega))) | ((with_reducible refine Below.alloc ?_ ?_ _); rotate_left; (focus first | omega | (simp; done) | (simp; omega))) | (refine Below.trans ?_ (Below.mono (by assumption) (by first | omega | (simp; done) | (simp; omega)))))⟩
  · have h2 : 0 ≤ r ∧ r + a.a.tot = left := by
      rcases hr with h3 | h3
      · omega
      · exact h3
    clear hr
    obtain ⟨h3, h4⟩ := h2
    have H4 := Lib.hid h4
    have h5 : r ≤ 1048576 := by omega
    clear h4
    go_wp2_with fail
    refine (szInt64SS_p ((k.below (below_alloc w _)).below hb) _ h3 h5).mono ?_
    rintro e w2 ⟨r2, rfl, hr2, hb2⟩
    have Hr2 := Lib.hid hr2
    clear hr2
    go_wp2_with fail
    · go_ret
      exact ⟨-1, rfl, .inl rfl, by repeat (first | (with_reducible exact Below.refl _ _) | (with_reducible assumption) | (with_reducible refine Below.drew ?_) | (with_reducible refine below_drewN ?_ _) | ((with_reducible refine Below.setCell ?_ ?_ _); rotate_left; (focus first | omega | (simp; done) | (simp; omega))) | ((with_reducible refine Below.alloc ?_ ?_ _); rotate_left; (focus first | omega | (simp; done) | (simp; omega))) | (refine Below.trans ?_ (Below.mono (by assumption) (by first | omega | (simp; done) | (simp; omega)))))⟩
    · go_ret
      refine ⟨r2, rfl, ?_, by repeat (first | (with_reducible exact Below.refl _ _) | (with_reducible assumption) | (with_reducible refine Below.drew ?_) | (with_reducible refine below_drewN ?_ _) | ((with_reducible refine Below.setCell ?_ ?_ _); rotate_left; (focus first | omega | (simp; done) | (simp; omega))) | ((with_reducible refine Below.alloc ?_ ?_ _); rotate_left; (focus first | omega | (simp; done) | (simp; omega))) | (refine Below.trans ?_ (Below.mono (by assumption) (by first | omega | (simp; done) | (simp; omega)))))⟩
      rcases Hr2.out with h6 | h6
      · exact .inl h6
      · right
        have := H4.out
        unfold Wt.tot
        omega

/-! ### copies -/
def ob (A : Option Addr) (n c : Nat) : List Nat := (Value.slice A n c).ownBlock.toList
theorem OI.ob_ {w : World} {lo n c : Nat} {A : Option Addr} {xs : List Int} (h : OI w lo A n c xs) : ∀ b ∈ ob A n c, lo ≤ b ∧ b < w.heap.size := by
  intro b hb
  exact h.lt b (by unfold ob at hb; simpa using hb)

def ToI (w : World) (xs : List Int) (e : Ending) (w' : World) : Prop :=
  ∃ A n c, e = .returned (.slice A n c) ∧ OI w' w.heap.size A n c xs ∧ Below w.heap.size w w'
theorem toInt64S_p {w : World} {A : Option Addr} {n c : Nat} {xs : List Int} (h : RI w A n c xs) (hn : n ≤ 1048576) : Calls Try.prog 44 #[.slice A n c] w (ToI w xs) := by
  refine (toInt64S_any h hn).mono ?_
  rintro e w' ⟨rfl, rfl⟩
  have hoi := oi_new w xs (by rw [h.len]; exact h.le) h.rng
  rw [h.len] at hoi
  exact ⟨_, _, _, rfl, hoi, below_alloc w _⟩

def ToA (w : World) (a : Ar) (e : Ending) (w' : World) : Prop :=
  ∃ A n c B m d vals, e = .returned (.agg #[.slice A n c, .slice B m d]) ∧ OI w' w.heap.size A n c a.owner ∧ OII w' w.heap.size B m d vals a.next ∧ (ob A n c ++ bks vals).Nodup ∧ Below w.heap.size w w'
theorem disj_nodup {l1 l2 : List Nat} (h1 : l1.Nodup) (h2 : l2.Nodup) (h : ∀ a ∈ l1, ∀ b ∈ l2, a ≠ b) : (l1 ++ l2).Nodup := List.nodup_append.2 ⟨h1, h2, h⟩
theorem ob_nodup (A : Option Addr) (n c : Nat) : (ob A n c).Nodup := by
  unfold ob
  rcases (Value.slice A n c).ownBlock with _ | b <;> simp

theorem toArena_p {w : World} {A B : Option Addr} {n c m d : Nat} {a : Ar} (h : RI w A n c a.owner) (g : RII w B m d a.next) (hs : a.tot ≤ 1048576) :
    Calls Try.prog 60 #[.agg #[.slice A n c, .slice B m d]] w (ToA w a) := by
  have hn : n ≤ 1048576 := by have := h.len; unfold Ar.tot at hs; omega
  have hm : m ≤ 1048576 := by have := g.len; unfold Ar.tot totLen at hs; omega
  have hr : ∀ r ∈ a.next, r.length ≤ 1048576 := fun r hr => by have := row_le_sum hr; unfold Ar.tot totLen at hs; omega
  go_enter Try.func60, Try.ntmps60
  go_wp2_with fail
  refine (toInt64S_p (h.below (by repeat (first | (with_reducible exact Below.refl _ _) | (with_reducible assumption) | (with_reducible refine Below.drew ?_) | (with_reducible refine below_drewN ?_ _) | ((with_reducible refine Below.setCell ?_ ?_ _); rotate_left; (focus first | omega | (simp; done) | (simp; omega))) | ((with_reducible refine Below.alloc ?_ ?_ _); rotate_left; (focus first | omega | (simp; done) | (simp; omega))) | (refine Below.trans ?_ (Below.mono (by assumption) (by first | omega | (simp; done) | (simp; omega))))))) hn).mono ?_
  rintro e w1 ⟨A1, n1, c1, rfl, ho1, hb⟩
  have hz := hb.size
  simp at hz
  (try (refine bat_k hb w.heap.size ?_ ?_; (focus first | omega | (simp; done) | (simp; omega)); intro hc0 hf0 hs0))
  (try (refine bat_k hb (w.heap.size + 1) ?_ ?_; (focus first | omega | (simp; done) | (simp; omega)); intro hc1 hf1 hs1))
  (try (refine bat_k hb (w.heap.size + 1 + 1) ?_ ?_; (focus first | omega | (simp; done) | (simp; omega)); intro hc2 hf2 hs2))
  go_wp2_with fail
  refine (toInt64SS_p (g.below (by repeat (first | (with_reducible exact Below.refl _ _) | (with_reducible assumption) | (with_reducible refine Below.drew ?_) | (with_reducible refine below_drewN ?_ _) | ((with_reducible refine Below.setCell ?_ ?_ _); rotate_left; (focus first | omega | (simp; done) | (simp; omega))) | ((with_reducible refine Below.alloc ?_ ?_ _); rotate_left; (focus first | omega | (simp; done) | (simp; omega))) | (refine Below.trans ?_ (Below.mono (by assumption) (by first | omega | (simp; done) | (simp; omega))))))) hm hr).mono ?_
  rintro e w2 ⟨A2, n2, c2, vals, rfl, ho2, hb2⟩
  have hz2 := hb2.size
  simp at hz2
  (try (refine bat_k hb2 (w.heap.size) ?_ ?_; (focus first | omega | (simp; done) | (simp; omega)); intro hc0 hf0 hs0))
  (try (refine bat_k hb2 (w.heap.size + 1) ?_ ?_; (focus first | omega | (simp; done) | (simp; omega)); intro hc1 hf1 hs1))
  (try (refine bat_k hb2 (w.heap.size + 1 + 1) ?_ ?_; (focus first | omega | (simp; done) | (simp; omega)); intro hc2 hf2 hs2))
  go_wp2_with fail
  refine bodyPost_ret (v := .agg #[.slice A1 n1 c1, .slice A2 n2 c2]) (by simp [results, Try.results60, go_sem, *]) rfl ⟨A1, n1, c1, A2, n2, c2, vals, rfl, ?_, ?_, ?_, ?_⟩
  · exact (ho1.from_ (by repeat (first | (with_reducible exact From.refl _ _) | (with_reducible refine From.drew ?_) | (with_reducible refine From.drewN ?_ _) | (with_reducible refine From.alloc ?_ _) | ((with_reducible refine From.set ?_ ?_ _); rotate_left; (focus first | omega | (simp; done) | (simp; omega))) | (refine From.trans ?_ (From.of_below (by assumption)))))).mono (by simp; omega)
  · exact (ho2.from_ (by repeat (first | (with_reducible exact From.refl _ _) | (with_reducible refine From.drew ?_) | (with_reducible refine From.drewN ?_ _) | (with_reducible refine From.alloc ?_ _) | ((with_reducible refine From.set ?_ ?_ _); rotate_left; (focus first | omega | (simp; done) | (simp; omega))) | (refine From.trans ?_ (From.of_below (by assumption)))))).mono (by simp; omega)
  · refine disj_nodup (ob_nodup _ _ _) ho2.rows.sep fun x hx y hy => ?_
    have h1 := ho1.ob_ x hx
    have h2 := ho2.rows.blk y hy
    simp at h2
    omega
  · repeat (first | (with_reducible exact Below.refl _ _) | (with_reducible assumption) | (with_reducible refine Below.drew ?_) | (with_reducible refine below_drewN ?_ _) | ((with_reducible refine Below.setCell ?_ ?_ _); rotate_left; (focus first | omega | (simp; done) | (simp; omega))) | ((with_reducible refine Below.alloc ?_ ?_ _); rotate_left; (focus first | omega | (simp; done) | (simp; omega))) | (refine Below.trans ?_ (Below.mono (by assumption) (by first | omega | (simp; done) | (simp; omega)))))
end Go.Proofs.Ytfmkomllnojkjaa
