/- Contracts of the statements' helpers on weighted arenas and lassos: to, eq. -/
import Derived.Test.YtfmkomllnojkjaaHelp
namespace Go.Proofs.Ytfmkomllnojkjaa
open Go.ChangeShapes Go.WideShapes Go.ChangeAt Go.RowKit
set_option linter.unusedVariables false
set_option linter.unusedSimpArgs false

def ToW (w : World) (a : Wt) (e : Ending) (w' : World) : Prop :=
  ∃ A n c B m d vals C l f vals2, e = .returned (.agg #[.slice A n c, .slice B m d, .slice C l f]) ∧ OI w' w.heap.size A n c a.a.owner ∧ OII w' w.heap.size B m d vals a.a.next ∧
    OII w' w.heap.size C l f vals2 a.cost ∧ (ob A n c ++ bks vals ++ bks vals2).Nodup ∧ Below w.heap.size w w'

theorem rows_le {rows : List (List Int)} {t : Nat} (h : totLen rows ≤ t) : ∀ r ∈ rows, r.length ≤ t := fun r hr => by
  have := row_le_sum hr; unfold totLen at h; omega
theorem rlen_le {rows : List (List Int)} {t : Nat} (h : totLen rows ≤ t) : rows.length ≤ t := by unfold totLen at h; omega

set_option maxHeartbeats 1000000 in
theorem toWeighted_p {w : World} {A B C : Option Addr} {n c m d l f : Nat} {a : Wt} (h : RI w A n c a.a.owner) (g : RII w B m d a.a.next) (k : RII w C l f a.cost) (hs : a.tot ≤ 1048576) :
    Calls Try.prog 17 #[.agg #[.slice A n c, .slice B m d, .slice C l f]] w (ToW w a) := by
  have ht1 : a.a.tot ≤ 1048576 := by unfold Wt.tot at hs; omega
  have ht2 : totLen a.cost ≤ 1048576 := by unfold Wt.tot at hs; omega
  have hl : l ≤ 1048576 := by have := k.len; have := rlen_le ht2; omega
  go_enter Try.func17, Try.ntmps17
  go_wp2_with fail
  refine (toArena_p (h.below (by repeat (first | (with_reducible exact Below.refl _ _) | (with_reducible assumption) | (with_reducible refine Below.drew ?_) | (with_reducible refine below_drewN ?_ _) | ((with_reducible refine Below.setCell ?_ ?_ _); rotate_left; (focus first | omega | (simp; done) | (simp; omega))) | ((with_reducible refine Below.alloc ?_ ?_ _); rotate_left; (focus first | omega | (simp; done) | (simp; omega))) | (refine Below.trans ?_ (Below.mono (by assumption) (by first | omega | (simp; done) | (simp; omega))))))) (g.below (by repeat (first | (with_reducible exact Below.refl _ _) | (with_reducible assumption) | (with_reducible refine Below.drew ?_) | (with_reducible refine below_drewN ?_ _) | ((with_reducible refine Below.setCell ?_ ?_ _); rotate_left; (focus first | omega | (simp; done) | (simp; omega))) | ((with_reducible refine Below.alloc ?_ ?_ _); rotate_left; (focus first | omega | (simp; done) | (simp; omega))) | (refine Below.trans ?_ (Below.mono (by assumption) (by first | omega | (simp; done) | (simp; omega))))))) ht1).mono ?_
  rintro e w1 ⟨A1, n1, c1, A2, n2, c2, vals, rfl, ho1, ho2, hnd, hb⟩
  have hz := hb.size
  simp at hz
  (try (refine bat_k hb (w.heap.size) ?_ ?_; (focus first | omega | (simp; done) | (simp; omega)); intro hc0 hf0 hs0))
  (try (refine bat_k hb (w.heap.size + 1) ?_ ?_; (focus first | omega | (simp; done) | (simp; omega)); intro hc1 hf1 hs1))
  (try (refine bat_k hb (w.heap.size + 1 + 1) ?_ ?_; (focus first | omega | (simp; done) | (simp; omega)); intro hc2 hf2 hs2))
  go_wp2_with fail
  refine (toInt64SS_p (k.below (by repeat (first | (with_reducible exact Below.refl _ _) | (with_reducible assumption) | (with_reducible refine Below.drew ?_) | (with_reducible refine below_drewN ?_ _) | ((with_reducible refine Below.setCell ?_ ?_ _); rotate_left; (focus first | omega | (simp; done) | (simp; omega))) | ((with_reducible refine Below.alloc ?_ ?_ _); rotate_left; (focus first | omega | (simp; done) | (simp; omega))) | (refine Below.trans ?_ (Below.mono (by assumption) (by first | omega | (simp; done) | (simp; omega))))))) hl (rows_le ht2)).mono ?_
  rintro e w2 ⟨A3, n3, c3, vals3, rfl, ho3, hb2⟩
  have hz2 := hb2.size
  simp at hz2
  (try (refine bat_k hb2 (w.heap.size) ?_ ?_; (focus first | omega | (simp; done) | (simp; omega)); intro hc0 hf0 hs0))
  (try (refine bat_k hb2 (w.heap.size + 1) ?_ ?_; (focus first | omega | (simp; done) | (simp; omega)); intro hc1 hf1 hs1))
  (try (refine bat_k hb2 (w.heap.size + 1 + 1) ?_ ?_; (focus first | omega | (simp; done) | (simp; omega)); intro hc2 hf2 hs2))
  go_wp2_with fail
  refine bodyPost_ret (v := .agg #[.slice A1 n1 c1, .slice A2 n2 c2, .slice A3 n3 c3]) (by simp [results, Try.results17, go_sem, *]) rfl ⟨A1, n1, c1, A2, n2, c2, vals, A3, n3, c3, vals3, rfl, ?_, ?_, ?_, ?_, ?_⟩
  · exact (ho1.from_ (by repeat (first | (with_reducible exact From.refl _ _) | (with_reducible refine From.drew ?_) | (with_reducible refine From.drewN ?_ _) | (with_reducible refine From.alloc ?_ _) | ((with_reducible refine From.set ?_ ?_ _); rotate_left; (focus first | omega | (simp; done) | (simp; omega))) | (refine From.trans ?_ (From.of_below (by assumption)))))).mono (by simp; omega)
  · exact (ho2.from_ (by repeat (first | (with_reducible exact From.refl _ _) | (with_reducible refine From.drew ?_) | (with_reducible refine From.drewN ?_ _) | (with_reducible refine From.alloc ?_ _) | ((with_reducible refine From.set ?_ ?_ _); rotate_left; (focus first | omega | (simp; done) | (simp; omega))) | (refine From.trans ?_ (From.of_below (by assumption)))))).mono (by simp; omega)
  · exact (ho3.from_ (by repeat (first | (with_reducible exact From.refl _ _) | (with_reducible refine From.drew ?_) | (with_reducible refine From.drewN ?_ _) | (with_reducible refine From.alloc ?_ _) | ((with_reducible refine From.set ?_ ?_ _); rotate_left; (focus first | omega | (simp; done) | (simp; omega))) | (refine From.trans ?_ (From.of_below (by assumption)))))).mono (by simp; omega)
  · refine disj_nodup hnd ho3.rows.sep fun x hx y hy => ?_
    have h2 := ho3.rows.blk y hy
    simp at h2
    rcases List.mem_append.1 hx with hx | hx
    · have h1 := ho1.ob_ x hx
      omega
    · have h1 := ho2.rows.blk x hx
      omega
  · repeat (first | (with_reducible exact Below.refl _ _) | (with_reducible assumption) | (with_reducible refine Below.drew ?_) | (with_reducible refine below_drewN ?_ _) | ((with_reducible refine Below.setCell ?_ ?_ _); rotate_left; (focus first | omega | (simp; done) | (simp; omega))) | ((with_reducible refine Below.alloc ?_ ?_ _); rotate_left; (focus first | omega | (simp; done) | (simp; omega))) | (refine Below.trans ?_ (Below.mono (by assumption) (by first | omega | (simp; done) | (simp; omega)))))

def ToL (w : World) (a : Ls) (e : Ending) (w' : World) : Prop :=
  ∃ A n c B m d, e = .returned (.agg #[.slice A n c, .slice B m d]) ∧ OI w' w.heap.size A n c a.stem ∧ OI w' w.heap.size B m d a.loop ∧ (ob A n c ++ ob B m d).Nodup ∧ Below w.heap.size w w'

set_option maxHeartbeats 1000000 in
theorem toLasso_p {w : World} {A B : Option Addr} {n c m d : Nat} {a : Ls} (h : RI w A n c a.stem) (g : RI w B m d a.loop) (hs : a.tot ≤ 1048576) :
    Calls Try.prog 26 #[.agg #[.slice A n c, .slice B m d]] w (ToL w a) := by
  have hn : n ≤ 1048576 := by have := h.len; unfold Ls.tot at hs; omega
  have hm : m ≤ 1048576 := by have := g.len; unfold Ls.tot at hs; omega
  go_enter Try.func26, Try.ntmps26
  go_wp2_with fail
  refine (toInt64S_p (h.below (by repeat (first | (with_reducible exact Below.refl _ _) | (with_reducible assumption) | (with_reducible refine Below.drew ?_) | (with_reducible refine below_drewN ?_ _) | ((with_reducible refine Below.setCell ?_ ?_ _); rotate_left; (focus first | omega | (simp; done) | (simp; omega))) | ((with_reducible refine Below.alloc ?_ ?_ _); rotate_left; (focus first | omega | (simp; done) | (simp; omega))) | (refine Below.trans ?_ (Below.mono (by assumption) (by first | omega | (simp; done) | (simp; omega))))))) hn).mono ?_
  rintro e w1 ⟨A1, n1, c1, rfl, ho1, hb⟩
  have hz := hb.size
  simp at hz
  (try (refine bat_k hb (w.heap.size) ?_ ?_; (focus first | omega | (simp; done) | (simp; omega)); intro hc0 hf0 hs0))
  (try (refine bat_k hb (w.heap.size + 1) ?_ ?_; (focus first | omega | (simp; done) | (simp; omega)); intro hc1 hf1 hs1))
  (try (refine bat_k hb (w.heap.size + 1 + 1) ?_ ?_; (focus first | omega | (simp; done) | (simp; omega)); intro hc2 hf2 hs2))
  go_wp2_with fail
  refine (toInt64S_p (g.below (by repeat (first | (with_reducible exact Below.refl _ _) | (with_reducible assumption) | (with_reducible refine Below.drew ?_) | (with_reducible refine below_drewN ?_ _) | ((with_reducible refine Below.setCell ?_ ?_ _); rotate_left; (focus first | omega | (simp; done) | (simp; omega))) | ((with_reducible refine Below.alloc ?_ ?_ _); rotate_left; (focus first | omega | (simp; done) | (simp; omega))) | (refine Below.trans ?_ (Below.mono (by assumption) (by first | omega | (simp; done) | (simp; omega))))))) hm).mono ?_
  rintro e w2 ⟨A2, n2, c2, rfl, ho2, hb2⟩
  have hz2 := hb2.size
  simp at hz2
  (try (refine bat_k hb2 (w.heap.size) ?_ ?_; (focus first | omega | (simp; done) | (simp; omega)); intro hc0 hf0 hs0))
  (try (refine bat_k hb2 (w.heap.size + 1) ?_ ?_; (focus first | omega | (simp; done) | (simp; omega)); intro hc1 hf1 hs1))
  (try (refine bat_k hb2 (w.heap.size + 1 + 1) ?_ ?_; (focus first | omega | (simp; done) | (simp; omega)); intro hc2 hf2 hs2))
  go_wp2_with fail
  refine bodyPost_ret (v := .agg #[.slice A1 n1 c1, .slice A2 n2 c2]) (by simp [results, Try.results26, go_sem, *]) rfl ⟨A1, n1, c1, A2, n2, c2, rfl, ?_, ?_, ?_, ?_⟩
  · exact (ho1.from_ (by repeat (first | (with_reducible exact From.refl _ _) | (with_reducible refine From.drew ?_) | (with_reducible refine From.drewN ?_ _) | (with_reducible refine From.alloc ?_ _) | ((with_reducible refine From.set ?_ ?_ _); rotate_left; (focus first | omega | (simp; done) | (simp; omega))) | (refine From.trans ?_ (From.of_below (by assumption)))))).mono (by simp; omega)
  · exact (ho2.from_ (by repeat (first | (with_reducible exact From.refl _ _) | (with_reducible refine From.drew ?_) | (with_reducible refine From.drewN ?_ _) | (with_reducible refine From.alloc ?_ _) | ((with_reducible refine From.set ?_ ?_ _); rotate_left; (focus first | omega | (simp; done) | (simp; omega))) | (refine From.trans ?_ (From.of_below (by assumption)))))).mono (by simp; omega)
  · refine disj_nodup (ob_nodup _ _ _) (ob_nodup _ _ _) fun x hx y hy => ?_
    have h1 := ho1.ob_ x hx
    have h2 := ho2.ob_ y hy
    simp at h2
    omega
  · repeat (first | (with_reducible exact Below.refl _ _) | (with_reducible assumption) | (with_reducible refine Below.drew ?_) | (with_reducible refine below_drewN ?_ _) | ((with_reducible refine Below.setCell ?_ ?_ _); rotate_left; (focus first | omega | (simp; done) | (simp; omega))) | ((with_reducible refine Below.alloc ?_ ?_ _); rotate_left; (focus first | omega | (simp; done) | (simp; omega))) | (refine Below.trans ?_ (Below.mono (by assumption) (by first | omega | (simp; done) | (simp; omega)))))

/-! ### equality of two values that read alike -/
theorem eqInt64S_same {w : World} {A B : Option Addr} {n c m d : Nat} {xs : List Int} (h : RI w A n c xs) (g : RI w B m d xs) :
    Calls Try.prog 37 #[.slice A n c, .slice B m d] w fun e w' => e = .returned (.bool true) ∧ Qt w w' := by
  have hmn : m = n := by have := h.len; have := g.len; omega
  subst hmn
  have hle := h.le
  go_enter Try.func37, Try.ntmps37
  go_wp2
  go_loopw [5] (fun i wr => ∃ k : Nat, k ≤ m ∧ i = .int .i64 k ∧ Qt w wr) (fun i _ => m - (intOf i).toNat)
  case atStart => exact ⟨0, by omega, rfl, Qt.refl _⟩
  case round =>
    obtain ⟨k, hk, rfl, hq⟩ := hrel
    by_cases hlt : k < m
    · obtain ⟨b, o, rfl, hb, _, hc⟩ := (h.qt hq).at_ hlt
      obtain ⟨b2, o2, rfl, hb2, _, hc2⟩ := (g.qt hq).at_ hlt
      go_wp2
      go_quiet (fail)
      go_wp2
      go_roundw
      case rel => exact ⟨k + 1, by omega, by go_num, hq.drewN _⟩
      case measure => simp [intOf]; omega
    · go_wp2
      go_ret
      exact ⟨rfl, hq⟩

theorem eqInt64SS_same {w : World} {A B : Option Addr} {n c m d : Nat} {xs : List (List Int)} (h : RII w A n c xs) (g : RII w B m d xs) :
    Calls Try.prog 64 #[.slice A n c, .slice B m d] w fun e w' => e = .returned (.bool true) ∧ Qt w w' := by
  have hmn : m = n := by have := h.len; have := g.len; omega
  subst hmn
  have hle := h.le
  go_enter Try.func64, Try.ntmps64
  go_wp2
  go_loopw [5] (fun i wr => ∃ k : Nat, k ≤ m ∧ i = .int .i64 k ∧ Qt w wr) (fun i _ => m - (intOf i).toNat)
  case atStart => exact ⟨0, by omega, rfl, Qt.refl _⟩
  case round =>
    obtain ⟨k, hk, rfl, hq⟩ := hrel
    by_cases hlt : k < m
    · obtain ⟨b, o, A1, n1, c1, rfl, hb, hc, hri⟩ := (h.qt hq).at_ hlt
      obtain ⟨b2, o2, A2, n2, c2, rfl, hb2, hc2, hri2⟩ := (g.qt hq).at_ hlt
      go_wp2
      go_quiet ((go_at_call 37; exact quiet_qt (eqInt64S_same (hri.qt (Qt.drewN (Qt.refl _) _)) (hri2.qt (Qt.drewN (Qt.refl _) _)))))
      go_wp2
      go_roundw
      case rel => exact ⟨k + 1, by omega, by go_num, hq.drewN _⟩
      case measure => simp [intOf]; omega
    · go_wp2
      go_ret
      exact ⟨rfl, hq⟩

def Tru (w : World) (e : Ending) (w' : World) : Prop := e = .returned (.bool true) ∧ Below w.heap.size w w'

theorem eqArena_same {w : World} {A B C D : Option Addr} {n c m d l f p q : Nat} {a : Ar} (h : RI w A n c a.owner) (g : RII w B m d a.next) (h2 : RI w C l f a.owner) (g2 : RII w D p q a.next) :
    Calls Try.prog 63 #[.agg #[.slice A n c, .slice B m d], .agg #[.slice C l f, .slice D p q]] w (Tru w) := by
  go_enter Try.func63, Try.ntmps63
  go_wp2_with fail
  refine (eqInt64S_same (h.below (by repeat (first | (with_reducible exact Below.refl _ _) | (with_reducible assumption) | (with_reducible refine Below.drew ?_) | (with_reducible refine below_drewN ?_ _) | ((with_reducible refine Below.setCell ?_ ?_ _); rotate_left; (focus first | omega | (simp; done) | (simp; omega))) | ((with_reducible refine Below.alloc ?_ ?_ _); rotate_left; (focus first | omega | (simp; done) | (simp; omega))) | (refine Below.trans ?_ (Below.mono (by assumption) (by first | omega | (simp; done) | (simp; omega))))))) (h2.below (by repeat (first | (with_reducible exact Below.refl _ _) | (with_reducible assumption) | (with_reducible refine Below.drew ?_) | (with_reducible refine below_drewN ?_ _) | ((with_reducible refine Below.setCell ?_ ?_ _); rotate_left; (focus first | omega | (simp; done) | (simp; omega))) | ((with_reducible refine Below.alloc ?_ ?_ _); rotate_left; (focus first | omega | (simp; done) | (simp; omega))) | (refine Below.trans ?_ (Below.mono (by assumption) (by first | omega | (simp; done) | (simp; omega)))))))).mono ?_
  rintro e w1 ⟨rfl, j1, rfl⟩
  go_wp2_with fail
  refine (eqInt64SS_same (g.below (by repeat (first | (with_reducible exact Below.refl _ _) | (with_reducible assumption) | (with_reducible refine Below.drew ?_) | (with_reducible refine below_drewN ?_ _) | ((with_reducible refine Below.setCell ?_ ?_ _); rotate_left; (focus first | omega | (simp; done) | (simp; omega))) | ((with_reducible refine Below.alloc ?_ ?_ _); rotate_left; (focus first | omega | (simp; done) | (simp; omega))) | (refine Below.trans ?_ (Below.mono (by assumption) (by first | omega | (simp; done) | (simp; omega))))))) (g2.below (by repeat (first | (with_reducible exact Below.refl _ _) | (with_reducible assumption) | (with_reducible refine Below.drew ?_) | (with_reducible refine below_drewN ?_ _) | ((with_reducible refine Below.setCell ?_ ?_ _); rotate_left; (focus first | omega | (simp; done) | (simp; omega))) | ((with_reducible refine Below.alloc ?_ ?_ _); rotate_left; (focus first | omega | (simp; done) | (simp; omega))) | (refine Below.trans ?_ (Below.mono (by assumption) (by first | omega | (simp; done) | (simp; omega)))))))).mono ?_
  rintro e w2 ⟨rfl, j2, rfl⟩
  go_wp2_with fail
  go_ret
  exact ⟨rfl, by repeat (first | (with_reducible exact Below.refl _ _) | (with_reducible assumption) | (with_reducible refine Below.drew ?_) | (with_reducible refine below_drewN ?_ _) | ((with_reducible refine Below.setCell ?_ ?_ _); rotate_left; (focus first | omega | (simp; done) | (simp; omega))) | ((with_reducible refine Below.alloc ?_ ?_ _); rotate_left; (focus first | omega | (simp; done) | (simp; omega))) | (refine Below.trans ?_ (Below.mono (by assumption) (by first | omega | (simp; done) | (simp; omega)))))⟩

theorem eqLasso_same {w : World} {A B C D : Option Addr} {n c m d l f p q : Nat} {a : Ls} (h : RI w A n c a.stem) (g : RI w B m d a.loop) (h2 : RI w C l f a.stem) (g2 : RI w D p q a.loop) :
    Calls Try.prog 28 #[.agg #[.slice A n c, .slice B m d], .agg #[.slice C l f, .slice D p q]] w (Tru w) := by
  go_enter Try.func28, Try.ntmps28
  go_wp2_with fail
  refine (eqInt64S_same (h.below (by repeat (first | (with_reducible exact Below.refl _ _) | (with_reducible assumption) | (with_reducible refine Below.drew ?_) | (with_reducible refine below_drewN ?_ _) | ((with_reducible refine Below.setCell ?_ ?_ _); rotate_left; (focus first | omega | (simp; done) | (simp; omega))) | ((with_reducible refine Below.alloc ?_ ?_ _); rotate_left; (focus first | omega | (simp; done) | (simp; omega))) | (refine Below.trans ?_ (Below.mono (by assumption) (by first | omega | (simp; done) | (simp; omega))))))) (h2.below (by repeat (first | (with_reducible exact Below.refl _ _) | (with_reducible assumption) | (with_reducible refine Below.drew ?_) | (with_reducible refine below_drewN ?_ _) | ((with_reducible refine Below.setCell ?_ ?_ _); rotate_left; (focus first | omega | (simp; done) | (simp; omega))) | ((with_reducible refine Below.alloc ?_ ?_ _); rotate_left; (focus first | omega | (simp; done) | (simp; omega))) | (refine Below.trans ?_ (Below.mono (by assumption) (by first | omega | (simp; done) | (simp; omega)))))))).mono ?_
  rintro e w1 ⟨rfl, j1, rfl⟩
  go_wp2_with fail
  refine (eqInt64S_same (g.below (by repeat (first | (with_reducible exact Below.refl _ _) | (with_reducible assumption) | (with_reducible refine Below.drew ?_) | (with_reducible refine below_drewN ?_ _) | ((with_reducible refine Below.setCell ?_ ?_ _); rotate_left; (focus first | omega | (simp; done) | (simp; omega))) | ((with_reducible refine Below.alloc ?_ ?_ _); rotate_left; (focus first | omega | (simp; done) | (simp; omega))) | (refine Below.trans ?_ (Below.mono (by assumption) (by first | omega | (simp; done) | (simp; omega))))))) (g2.below (by repeat (first | (with_reducible exact Below.refl _ _) | (with_reducible assumption) | (with_reducible refine Below.drew ?_) | (with_reducible refine below_drewN ?_ _) | ((with_reducible refine Below.setCell ?_ ?_ _); rotate_left; (focus first | omega | (simp; done) | (simp; omega))) | ((with_reducible refine Below.alloc ?_ ?_ _); rotate_left; (focus first | omega | (simp; done) | (simp; omega))) | (refine Below.trans ?_ (Below.mono (by assumption) (by first | omega | (simp; done) | (simp; omega)))))))).mono ?_
  rintro e w2 ⟨rfl, j2, rfl⟩
  go_wp2_with fail
  go_ret
  exact ⟨rfl, by repeat (first | (with_reducible exact Below.refl _ _) | (with_reducible assumption) | (with_reducible refine Below.drew ?_) | (with_reducible refine below_drewN ?_ _) | ((with_reducible refine Below.setCell ?_ ?_ _); rotate_left; (focus first | omega | (simp; done) | (simp; omega))) | ((with_reducible refine Below.alloc ?_ ?_ _); rotate_left; (focus first | omega | (simp; done) | (simp; omega))) | (refine Below.trans ?_ (Below.mono (by assumption) (by first | omega | (simp; done) | (simp; omega)))))⟩

theorem eqWeighted_same {w : World} {A B C D E F : Option Addr} {n c m d l f p q r s t u : Nat} {a : Wt} (h : RI w A n c a.a.owner) (g : RII w B m d a.a.next) (k : RII w E r s a.cost)
    (h2 : RI w C l f a.a.owner) (g2 : RII w D p q a.a.next) (k2 : RII w F t u a.cost) :
    Calls Try.prog 19 #[.agg #[.slice A n c, .slice B m d, .slice E r s], .agg #[.slice C l f, .slice D p q, .slice F t u]] w (Tru w) := by
  go_enter Try.func19, Try.ntmps19
  go_wp2_with fail
  refine (eqArena_same (h.below (by repeat (first | (with_reducible exact Below.refl _ _) | (with_reducible assumption) | (with_reducible refine Below.drew ?_) | (with_reducible refine below_drewN ?_ _) | ((with_reducible refine Below.setCell ?_ ?_ _); rotate_left; (focus first | omega | (simp; done) | (simp; omega))) | ((with_reducible refine Below.alloc ?_ ?_ _); rotate_left; (focus first | omega | (simp; done) | (simp; omega))) | (refine Below.trans ?_ (Below.mono (by assumption) (by first | omega | (simp; done) | (simp; omega))))))) (g.below (by repeat (first | (with_reducible exact Below.refl _ _) | (with_reducible assumption) | (with_reducible refine Below.drew ?_) | (with_reducible refine below_drewN ?_ _) | ((with_reducible refine Below.setCell ?_ ?_ _); rotate_left; (focus first | omega | (simp; done) | (simp; omega))) | ((with_reducible refine Below.alloc ?_ ?_ _); rotate_left; (focus first | omega | (simp; done) | (simp; omega))) | (refine Below.trans ?_ (Below.mono (by assumption) (by first | omega | (simp; done) | (simp; omega))))))) (h2.below (by repeat (first | (with_reducible exact Below.refl _ _) | (with_reducible assumption) | (with_reducible refine Below.drew ?_) | (with_reducible refine below_drewN ?_ _) | ((with_reducible refine Below.setCell ?_ ?_ _); rotate_left; (focus first | omega | (simp; done) | (simp; omega))) | ((with_reducible refine Below.alloc ?_ ?_ _); rotate_left; (focus first | omega | (simp; done) | (simp; omega))) | (refine Below.trans ?_ (Below.mono (by assumption) (by first | omega | (simp; done) | (simp; omega))))))) (g2.below (by repeat (first | (with_reducible exact Below.refl _ _) | (with_reducible assumption) | (with_reducible refine Below.drew ?_) | (with_reducible refine below_drewN ?_ _) | ((with_reducible refine Below.setCell ?_ ?_ _); rotate_left; (focus first | omega | (simp; done) | (simp; omega))) | ((with_reducible refine Below.alloc ?_ ?_ _); rotate_left; (focus first | omega | (simp; done) | (simp; omega))) | (refine Below.trans ?_ (Below.mono (by assumption) (by first | omega | (simp; done) | (simp; omega)))))))).mono ?_
  rintro e w1 ⟨rfl, hb⟩
  have hz := hb.size
  simp at hz
  (try (refine bat_k hb (w.heap.size) ?_ ?_; (focus first | omega | (simp; done) | (simp; omega)); intro hc0 hf0 hs0))
  (try (refine bat_k hb (w.heap.size + 1) ?_ ?_; (focus first | omega | (simp; done) | (simp; omega)); intro hc1 hf1 hs1))
  (try (refine bat_k hb (w.heap.size + 1 + 1) ?_ ?_; (focus first | omega | (simp; done) | (simp; omega)); intro hc2 hf2 hs2))
  go_wp2_with fail
  refine (eqInt64SS_same (k.below (by repeat (first | (with_reducible exact Below.refl _ _) | (with_reducible assumption) | (with_reducible refine Below.drew ?_) | (with_reducible refine below_drewN ?_ _) | ((with_reducible refine Below.setCell ?_ ?_ _); rotate_left; (focus first | omega | (simp; done) | (simp; omega))) | ((with_reducible refine Below.alloc ?_ ?_ _); rotate_left; (focus first | omega | (simp; done) | (simp; omega))) | (refine Below.trans ?_ (Below.mono (by assumption) (by first | omega | (simp; done) | (simp; omega))))))) (k2.below (by repeat (first | (with_reducible exact Below.refl _ _) | (with_reducible assumption) | (with_reducible refine Below.drew ?_) | (with_reducible refine below_drewN ?_ _) | ((with_reducible refine Below.setCell ?_ ?_ _); rotate_left; (focus first | omega | (simp; done) | (simp; omega))) | ((with_reducible refine Below.alloc ?_ ?_ _); rotate_left; (focus first | omega | (simp; done) | (simp; omega))) | (refine Below.trans ?_ (Below.mono (by assumption) (by first | omega | (simp; done) | (simp; omega)))))))).mono ?_
  rintro e w2 ⟨rfl, j2, rfl⟩
  go_wp2_with fail
  go_ret
  exact ⟨rfl, by repeat (first | (with_reducible exact Below.refl _ _) | (with_reducible assumption) | (with_reducible refine Below.drew ?_) | (with_reducible refine below_drewN ?_ _) | ((with_reducible refine Below.setCell ?_ ?_ _); rotate_left; (focus first | omega | (simp; done) | (simp; omega))) | ((with_reducible refine Below.alloc ?_ ?_ _); rotate_left; (focus first | omega | (simp; done) | (simp; omega))) | (refine Below.trans ?_ (Below.mono (by assumption) (by first | omega | (simp; done) | (simp; omega)))))⟩
end Go.Proofs.Ytfmkomllnojkjaa
