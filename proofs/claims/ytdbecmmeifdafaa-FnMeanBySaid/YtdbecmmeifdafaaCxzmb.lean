/- Credits: what is finite is at most the bound, whatever the bound that one counts with: plain. -/
import Derived.Test.YtdbecmmeifdafaaGKzmb
import Derived.Test.YtdbecmmeifdafaaMvzmb
namespace Go.Proofs.Ytdbecmmeifdafaa
open Go.RowKit
set_option linter.unusedVariables false
set_option linter.unusedSimpArgs false

/-- Where an edge goes, and what it costs. -/
def toE (w : Wt) (v j : Nat) : Nat := (gi (gl w.a.next v) j).toNat
def coE (w : Wt) (v j : Nat) : Int := gi (gl w.cost v) j
def Ed (w : Wt) (b : Int) (d : List Int) (v j : Nat) (x : Int) : Prop := gi d (toE w v j) ≤ b ∧ gi d (toE w v j) - coE w v j ≤ x
theorem need0_le {w : Wt} {b : Int} {d : List Int} {v j : Nat} {x : Int} (h0 : 0 ≤ x) (hx : x ≤ b) : need0 w b d v j ≤ x ↔ Ed w b d v j x := by
  unfold need0 Ed toE coE
  split
  · constructor <;> intro h <;> omega
  · split <;> constructor <;> intro h <;> omega
theorem capB_le {b x y : Int} (hx : x ≤ b) : capB b y ≤ x ↔ y ≤ x := by
  unfold capB
  split <;> constructor <;> intro h <;> omega
theorem bestN_le0 {f : Nat → Int} (hf : ∀ j, 0 ≤ f j) {x : Int} : ∀ k, 1 ≤ k → (bestN 0 f k ≤ x ↔ ∃ j, j < k ∧ f j ≤ x)
  | 1, _ => by
    rw [bestN_1]
    exact ⟨fun h => ⟨0, by omega, h⟩, fun ⟨j, hj, h⟩ => by rw [show j = 0 by omega] at h; exact h⟩
  | k + 2, _ => by
    have ih := bestN_le0 (f := f) hf (x := x) (k + 1) (by omega)
    have h0 := bestN_nn (o := 0) hf (k + 1) (by omega)
    have h1 : (∃ j, j < k + 2 ∧ f j ≤ x) ↔ (∃ j, j < k + 1 ∧ f j ≤ x) ∨ f (k + 1) ≤ x := by
      constructor
      · rintro ⟨j, hj, h⟩
        rcases Nat.lt_or_ge j (k + 1) with h2 | h2
        · exact .inl ⟨j, h2, h⟩
        · right; rw [show k + 1 = j by omega]; exact h
      · rintro (⟨j, hj, h⟩ | h)
        · exact ⟨j, by omega, h⟩
        · exact ⟨k + 1, by omega, h⟩
    rw [h1, ← ih, bestN_s 0 f (k + 1)]
    split <;> constructor <;> intro h <;> omega
theorem bestN_le1 {f : Nat → Int} (hf : ∀ j, 0 ≤ f j) {x : Int} : ∀ k, 1 ≤ k → (bestN 1 f k ≤ x ↔ ∀ j, j < k → f j ≤ x)
  | 1, _ => by
    rw [bestN_1]
    exact ⟨fun h j hj => by rw [show j = 0 by omega]; exact h, fun h => h 0 (by omega)⟩
  | k + 2, _ => by
    have ih := bestN_le1 (f := f) hf (x := x) (k + 1) (by omega)
    have h0 := bestN_nn (o := 1) hf (k + 1) (by omega)
    have h1 : (∀ j, j < k + 2 → f j ≤ x) ↔ (∀ j, j < k + 1 → f j ≤ x) ∧ f (k + 1) ≤ x := by
      constructor
      · exact fun h => ⟨fun j hj => h j (by omega), h _ (by omega)⟩
      · rintro ⟨h, h2⟩ j hj
        rcases Nat.lt_or_ge j (k + 1) with h3 | h3
        · exact h j h3
        · rw [show j = k + 1 by omega]; exact h2
    rw [h1, ← ih, bestN_s 1 f (k + 1)]
    split <;> constructor <;> intro h <;> omega
/-- What it is that a vertex's step is at most x. -/
theorem stepT_le {w : Wt} (hw : WSh w) {b : Int} (hb : 0 ≤ b) {d : List Int} {v : Nat} (hv : v < w.a.owner.length) {x : Int} (h0 : 0 ≤ x) (hx : x ≤ b) :
    stepT w b d v ≤ x ↔ (gi w.a.owner v = 0 → ∃ j, j < (gl w.a.next v).length ∧ Ed w b d v j x) ∧ (gi w.a.owner v = 1 → ∀ j, j < (gl w.a.next v).length → Ed w b d v j x) := by
  have hr := (hw.row v hv).2.1
  unfold stepT
  rw [capB_le hx]
  rcases hw.own v hv with e | e <;> rw [e]
  · rw [bestN_le0 (fun j => need0_nn hb) _ hr]
    constructor
    · rintro ⟨j, hj, h⟩
      exact ⟨fun _ => ⟨j, hj, (need0_le h0 hx).1 h⟩, fun h' => absurd h' (by decide)⟩
    · rintro ⟨h, -⟩
      obtain ⟨j, hj, h⟩ := h rfl
      exact ⟨j, hj, (need0_le h0 hx).2 h⟩
  · rw [bestN_le1 (fun j => need0_nn hb) _ hr]
    constructor
    · exact fun h => ⟨fun h' => absurd h' (by decide), fun _ j hj => (need0_le h0 hx).1 (h j hj)⟩
    · exact fun h j hj => (need0_le h0 hx).2 (h.2 rfl j hj)
theorem worstI_all : ∀ {r : List Int} {m : Int}, m ≤ worstI m r ∧ ∀ x ∈ r, -x ≤ worstI m r
  | [], m => ⟨Int.le_refl _, fun x hx => by simp at hx⟩
  | c :: r, m => by
    have ih := worstI_all (r := r) (m := if -c > m then -c else m)
    unfold worstI
    refine ⟨?_, fun x hx => ?_⟩
    · have := ih.1; split at this <;> rename_i e <;> simp only [e, if_true, if_false] <;> omega
    · rcases List.mem_cons.1 hx with rfl | hx
      · have := ih.1; split at this <;> rename_i e <;> simp only [e, if_true, if_false] <;> omega
      · exact ih.2 x hx
theorem worstR_all : ∀ {rs : List (List Int)} {m : Int}, m ≤ worstR m rs ∧ ∀ r ∈ rs, ∀ x ∈ r, -x ≤ worstR m rs
  | [], m => ⟨Int.le_refl _, fun x hx => by simp at hx⟩
  | r :: rs, m => by
    have ih := worstR_all (rs := rs) (m := worstI m r)
    have h1 := worstI_all (r := r) (m := m)
    unfold worstR
    refine ⟨Int.le_trans h1.1 ih.1, fun s hs x hx => ?_⟩
    rcases List.mem_cons.1 hs with rfl | hs
    · exact Int.le_trans (h1.2 x hx) ih.1
    · exact ih.2 s hs x hx
theorem coE_ge {w : Wt} (hw : WSh w) {v j : Nat} (hv : v < w.a.owner.length) (hj : j < (gl w.a.next v).length) : -coE w v j ≤ worstR 0 w.cost := by
  have h1 := (hw.row v hv).1
  refine (worstR_all (rs := w.cost) (m := 0)).2 (gl w.cost v) ?_ (coE w v j) ?_
  · unfold gl
    rw [List.getD_eq_getElem?_getD, List.getElem?_eq_getElem (by rw [hw.cl]; exact hv)]
    exact List.getElem_mem _
  · unfold coE gi
    rw [List.getD_eq_getElem?_getD, List.getElem?_eq_getElem (by rw [h1]; exact hj)]
    exact List.getElem_mem _
/-- A list by its values. -/
def tabL (n : Nat) (f : Nat → Int) : List Int := (List.range n).map f
theorem tabL_len (n : Nat) (f : Nat → Int) : (tabL n f).length = n := by simp [tabL]
theorem tabL_at {n : Nat} {f : Nat → Int} {v : Nat} (h : v < n) : gi (tabL n f) v = f v := by
  unfold gi tabL
  rw [List.getD_eq_getElem?_getD, List.getElem?_map, List.getElem?_range h]
  rfl
theorem nodup_mapR {f : Nat → Nat} : ∀ n, (∀ i j, i < j → j < n → f i ≠ f j) → ((List.range n).map f).Nodup
  | 0, _ => by simp
  | n + 1, h => by
    rw [List.range_succ, List.map_append]
    refine List.nodup_append.2 ⟨nodup_mapR n fun i j h1 h2 => h i j h1 (by omega), by simp, fun a ha b hb => ?_⟩
    obtain ⟨i, hi, rfl⟩ := List.mem_map.1 ha
    simp only [List.map_cons, List.map_nil, List.mem_singleton] at hb
    rw [hb]
    exact h i n (List.mem_range.1 hi) (by omega)
/-- Of n values and one that is greater than n - 1 steps of W, one of the n windows is empty. -/
theorem window {n : Nat} {c : Nat → Int} {W : Int} (hW : 0 ≤ W) {v : Nat} (hv : v < n) (hc : ((n : Int) - 1) * W < c v) : ∃ i : Nat, i < n ∧ ∀ u, u < n → c u ≤ ((i : Int) - 1) * W ∨ (i : Int) * W + 1 ≤ c u := by
  refine Classical.byContradiction fun hno => ?_
  have h1 : ∀ i : Nat, i < n → ∃ u, u < n ∧ ((i : Int) - 1) * W < c u ∧ c u ≤ (i : Int) * W := fun i hi => by
    refine Classical.byContradiction fun h2 => hno ⟨i, hi, fun u hu => ?_⟩
    rcases Int.lt_or_le (((i : Int) - 1) * W) (c u) with h3 | h3
    · rcases Int.lt_or_le ((i : Int) * W) (c u) with h4 | h4
      · exact .inr (by omega)
      · exact absurd ⟨u, hu, h3, h4⟩ h2
    · exact .inl h3
  have h2 : ∀ i : Nat, ∃ u, i < n → u < n ∧ ((i : Int) - 1) * W < c u ∧ c u ≤ (i : Int) * W := fun i => by
    by_cases hi : i < n
    · obtain ⟨u, h⟩ := h1 i hi; exact ⟨u, fun _ => h⟩
    · exact ⟨0, fun h => absurd h hi⟩
  let f : Nat → Nat := fun i => Classical.choose (h2 i)
  have hf : ∀ i, i < n → f i < n ∧ ((i : Int) - 1) * W < c (f i) ∧ c (f i) ≤ (i : Int) * W := fun i => Classical.choose_spec (h2 i)
  have hm : ∀ a b : Int, a ≤ b → a * W ≤ b * W := fun a b h => Int.mul_le_mul_of_nonneg_right h hW
  have hnd : ((List.range n).map f).Nodup := nodup_mapR n fun i j hij hj e => by
    have ha := hf i (by omega)
    have hb := hf j hj
    rw [e] at ha
    have := hm i (j - 1) (by omega)
    omega
  have hnv : v ∉ (List.range n).map f := fun hvm => by
    obtain ⟨i, hi, e⟩ := List.mem_map.1 hvm
    have hi := List.mem_range.1 hi
    have ha := hf i hi
    rw [e] at ha
    have := hm i (n - 1) (by omega)
    omega
  have := MV.nodup_len n (v :: (List.range n).map f) (List.nodup_cons.2 ⟨hnv, hnd⟩) fun x hx => by
    rcases List.mem_cons.1 hx with rfl | hx
    · exact hv
    · obtain ⟨i, hi, rfl⟩ := List.mem_map.1 hx
      exact (hf i (List.mem_range.1 hi)).1
  simp only [List.length_cons, List.length_map, List.length_range] at this
  omega
/-- What is finite is at most the bound. -/
theorem least_gap {w : Wt} (hw : WSh w) {b : Int} (hb : boundW w ≤ b) {c : List Int} (hL : Least w b c) {v : Nat} (hv : v < w.a.owner.length) (h : gi c v ≤ b) : gi c v ≤ boundW w := by
  have hb0 : 0 ≤ b := Int.le_trans hw.bound.1 hb
  have hW := (worstR_all (rs := w.cost) (m := 0)).1
  refine Classical.byContradiction fun hno => ?_
  have hno : ((w.a.owner.length : Int) - 1) * worstR 0 w.cost < gi c v := by unfold boundW at hno; omega
  obtain ⟨i, hi, hwin⟩ := window (c := gi c) hW hv hno
  have hmul : ((i : Int) - 1) * worstR 0 w.cost = (i : Int) * worstR 0 w.cost - worstR 0 w.cost := by rw [Int.sub_mul, Int.one_mul]
  have hge : (i : Int) * worstR 0 w.cost ≤ ((w.a.owner.length : Int) - 1) * worstR 0 w.cost := Int.mul_le_mul_of_nonneg_right (by omega) hW
  have hi0 : 0 ≤ (i : Int) * worstR 0 w.cost := Int.mul_nonneg (by omega) hW
  rw [hmul] at hwin
  generalize hM : (i : Int) * worstR 0 w.cost = M at *
  generalize hWW : worstR 0 w.cost = W at *
  let d := tabL w.a.owner.length fun u => if M + 1 ≤ gi c u ∧ gi c u ≤ b then gi c u - 1 else gi c u
  have hd : ∀ u, u < w.a.owner.length → gi d u = if M + 1 ≤ gi c u ∧ gi c u ≤ b then gi c u - 1 else gi c u := fun u hu => tabL_at hu
  have hpre : PreC w b d := by
    refine ⟨tabL_len _ _, fun u hu => ?_, fun u hu => ?_⟩
    · have := hL.rg u hu
      rw [hd u hu]
      split <;> omega
    · have hr := hL.rg u hu
      rcases Int.lt_or_le b (gi c u) with h1 | h1
      · have := (stepT_rg hw hb0 (c := d) hu).2
        rw [hd u hu, if_neg (by omega)]
        omega
      · have hdu0 : 0 ≤ gi d u := by rw [hd u hu]; split <;> omega
        have hdub : gi d u ≤ b := by rw [hd u hu]; split <;> omega
        have hed : ∀ j, j < (gl w.a.next u).length → Ed w b c u j (gi c u) → Ed w b d u j (gi d u) := fun j hj he => by
          have ht := hw.to u hu j hj
          have hc1 := coE_ge hw hu hj
          rw [hWW] at hc1
          have htn : toE w u j < w.a.owner.length := by unfold toE; omega
          have hwt := hwin _ htn
          obtain ⟨e1, e2⟩ := he
          have hdt := hd _ htn
          have hdu := hd u hu
          unfold Ed
          split at hdt <;> split at hdu <;> omega
        have hs := (stepT_le hw hb0 hu hr.1 h1).1 (hL.pre u hu)
        refine (stepT_le hw hb0 hu hdu0 hdub).2 ⟨fun e => ?_, fun e j hj => hed j hj (hs.2 e j hj)⟩
        obtain ⟨j, hj, he⟩ := hs.1 e
        exact ⟨j, hj, hed j hj he⟩
  have h3 := hL.low d hpre v hv
  rw [hd v hv, if_pos (by omega)] at h3
  omega
/-- One half of: the bound that one counts with does not matter. -/
theorem least_half {w : Wt} (hw : WSh w) {b1 b2 : Int} (h1 : boundW w ≤ b1) (h2 : boundW w ≤ b2) {c1 c2 : List Int} (L1 : Least w b1 c1) (L2 : Least w b2 c2) {v : Nat} (hv : v < w.a.owner.length) (h : gi c2 v ≤ b2) : gi c1 v ≤ gi c2 v := by
  have hb0 := hw.bound.1
  let d := tabL w.a.owner.length fun u => if gi c2 u ≤ b2 then gi c2 u else b1 + 1
  have hd : ∀ u, u < w.a.owner.length → gi d u = if gi c2 u ≤ b2 then gi c2 u else b1 + 1 := fun u hu => tabL_at hu
  have hg := fun u (hu : u < w.a.owner.length) => least_gap hw h2 L2 hu
  have hpre : PreC w b1 d := by
    refine ⟨tabL_len _ _, fun u hu => ?_, fun u hu => ?_⟩
    · have := L2.rg u hu
      have := hg u hu
      rw [hd u hu]
      split <;> omega
    · have hr := L2.rg u hu
      rw [hd u hu]
      split
      · rename_i e
        have hs := (stepT_le hw (by omega) hu hr.1 e).1 (L2.pre u hu)
        have hgu := hg u hu e
        have hed : ∀ j, j < (gl w.a.next u).length → Ed w b2 c2 u j (gi c2 u) → Ed w b1 d u j (gi c2 u) := fun j hj he => by
          have ht := hw.to u hu j hj
          have htn : toE w u j < w.a.owner.length := by unfold toE; omega
          obtain ⟨e1, e2⟩ := he
          have := hg _ htn e1
          unfold Ed
          rw [hd _ htn, if_pos e1]
          omega
        refine (stepT_le hw (by omega) hu hr.1 (by omega)).2 ⟨fun e => ?_, fun e j hj => hed j hj (hs.2 e j hj)⟩
        obtain ⟨j, hj, he⟩ := hs.1 e
        exact ⟨j, hj, hed j hj he⟩
      · exact (stepT_rg hw (by omega) hu).2
  have h3 := L1.low d hpre v hv
  rwa [hd v hv, if_pos h] at h3
/-- The bound that one counts with does not matter. -/
theorem least_dec {w : Wt} (hw : WSh w) {b1 b2 : Int} (h1 : boundW w ≤ b1) (h2 : boundW w ≤ b2) {c1 c2 : List Int} (L1 : Least w b1 c1) (L2 : Least w b2 c2) {v : Nat} (hv : v < w.a.owner.length) : decB b1 (gi c1 v) = decB b2 (gi c2 v) := by
  have a := least_half hw h1 h2 L1 L2 hv
  have e := least_half hw h2 h1 L2 L1 hv
  have g1 := least_gap hw h1 L1 hv
  have g2 := least_gap hw h2 L2 hv
  unfold decB
  split <;> split <;> omega
end Go.Proofs.Ytdbecmmeifdafaa
