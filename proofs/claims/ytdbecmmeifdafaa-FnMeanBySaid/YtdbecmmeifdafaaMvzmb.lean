/- The value of a mean-payoff game: the game of the first loop is within a bounded rest of every long play; and what both sides' rounding finds. Plain. -/
import Derived.Test.YtdbecmmeifdafaaLoopMeanzmb
namespace Go.Proofs.Ytdbecmmeifdafaa.MV
open Go.RowKit
set_option linter.unusedVariables false
set_option linter.unusedSimpArgs false

/-- The best of the first k: the greatest for a player who wants much, the least for the other. -/
def optB (mx : Bool) (f : Nat → Int) : Nat → Int
  | 0 => 0
  | 1 => f 0
  | k + 2 => if (mx = true ∧ f (k + 1) > optB mx f (k + 1)) ∨ (mx = false ∧ f (k + 1) < optB mx f (k + 1)) then f (k + 1) else optB mx f (k + 1)
theorem optB_s (mx : Bool) (f : Nat → Int) (k : Nat) : optB mx f (k + 2) = if (mx = true ∧ f (k + 1) > optB mx f (k + 1)) ∨ (mx = false ∧ f (k + 1) < optB mx f (k + 1)) then f (k + 1) else optB mx f (k + 1) := rfl
theorem optB_ex (mx : Bool) (f : Nat → Int) : ∀ k, 1 ≤ k → ∃ j, j < k ∧ optB mx f k = f j
  | 1, _ => ⟨0, by omega, rfl⟩
  | k + 2, _ => by
    obtain ⟨j, hj, he⟩ := optB_ex mx f (k + 1) (by omega)
    rw [optB_s]
    split
    · exact ⟨k + 1, by omega, rfl⟩
    · exact ⟨j, by omega, he⟩
theorem optB_max (f : Nat → Int) : ∀ k j, j < k → f j ≤ optB true f k
  | 0, j, h => by omega
  | 1, j, h => by have : j = 0 := by omega
                  subst this; exact Int.le_refl _
  | k + 2, j, h => by
    rw [optB_s]
    have ih := optB_max f (k + 1)
    simp only [true_and, Bool.true_eq_false, false_and, or_false]
    by_cases hj : j = k + 1
    · subst hj; split <;> omega
    · have := ih j (by omega); split <;> omega
theorem optB_neg (mx : Bool) (f : Nat → Int) : ∀ k, optB (!mx) (fun j => -f j) k = -optB mx f k
  | 0 => rfl
  | 1 => rfl
  | k + 2 => by
    rw [optB_s, optB_s, optB_neg mx f (k + 1)]
    cases mx <;> simp only [Bool.not_true, Bool.not_false, true_and, Bool.true_eq_false, Bool.false_eq_true, false_and, or_false, false_or] <;> split <;> split <;> omega
theorem optB_min (f : Nat → Int) (k j : Nat) (h : j < k) : optB false f k ≤ f j := by
  have h1 := optB_max (fun j => -f j) k j h
  have h2 := optB_neg false f k
  simp only [Bool.not_false] at h2
  rw [h2] at h1
  omega

/-- A game: who wants much, how many ways, where to, what it brings. -/
structure Gm where
  mx : Nat → Bool
  deg : Nat → Nat
  to : Nat → Nat → Nat
  c : Nat → Nat → Int
def Gm.dual (g : Gm) : Gm := ⟨fun v => !g.mx v, g.deg, g.to, fun v j => -g.c v j⟩
structure Gm.Ok (g : Gm) (n : Nat) (W : Int) : Prop where
  deg : ∀ v, v < n → 1 ≤ g.deg v
  to : ∀ v, v < n → ∀ j, j < g.deg v → g.to v j < n
  lo : ∀ v, v < n → ∀ j, j < g.deg v → -W ≤ g.c v j
  hi : ∀ v, v < n → ∀ j, j < g.deg v → g.c v j ≤ W
theorem Gm.Ok.dual {g : Gm} {n : Nat} {W : Int} (h : g.Ok n W) : g.dual.Ok n W :=
  ⟨h.deg, h.to, fun v hv j hj => by have := h.hi v hv j hj; show -W ≤ -g.c v j; omega, fun v hv j hj => by have := h.lo v hv j hj; show -g.c v j ≤ W; omega⟩

/-- What so many steps bring. -/
def Gm.pay (g : Gm) : Nat → Nat → Int
  | 0, _ => 0
  | k + 1, v => optB (g.mx v) (fun j => g.c v j + g.pay k (g.to v j)) (g.deg v)
theorem Gm.pay_dual (g : Gm) : ∀ k v, g.dual.pay k v = -g.pay k v
  | 0, v => rfl
  | k + 1, v => by
    show optB (!g.mx v) (fun j => -g.c v j + g.dual.pay k (g.to v j)) (g.deg v) = -optB (g.mx v) (fun j => g.c v j + g.pay k (g.to v j)) (g.deg v)
    rw [← optB_neg]
    congr 1
    funext j
    rw [g.pay_dual k]
    omega

/-! ### the game of the first loop -/
/-- Fractions, compared crosswise. -/
def less (x y : Int × Int) : Prop := x.1 * y.2 < y.1 * x.2
instance (x y : Int × Int) : Decidable (less x y) := by unfold less; exact inferInstance
def optF (mx : Bool) (f : Nat → Int × Int) : Nat → Int × Int
  | 0 => (0, 1)
  | 1 => f 0
  | k + 2 => if (mx = true ∧ less (optF mx f (k + 1)) (f (k + 1))) ∨ (mx = false ∧ less (f (k + 1)) (optF mx f (k + 1))) then f (k + 1) else optF mx f (k + 1)
theorem optF_s (mx : Bool) (f : Nat → Int × Int) (k : Nat) : optF mx f (k + 2) = if (mx = true ∧ less (optF mx f (k + 1)) (f (k + 1))) ∨ (mx = false ∧ less (f (k + 1)) (optF mx f (k + 1))) then f (k + 1) else optF mx f (k + 1) := rfl
theorem optF_ex (mx : Bool) (f : Nat → Int × Int) : ∀ k, 1 ≤ k → ∃ j, j < k ∧ optF mx f k = f j
  | 1, _ => ⟨0, by omega, rfl⟩
  | k + 2, _ => by
    obtain ⟨j, hj, he⟩ := optF_ex mx f (k + 1) (by omega)
    rw [optF_s]
    split
    · exact ⟨k + 1, by omega, rfl⟩
    · exact ⟨j, by omega, he⟩
def neg (x : Int × Int) : Int × Int := (-x.1, x.2)
theorem less_neg (x y : Int × Int) : less (neg x) (neg y) ↔ less y x := by
  unfold less neg
  simp only [Int.neg_mul]
  omega
theorem optF_neg (mx : Bool) (f : Nat → Int × Int) : ∀ k, optF (!mx) (fun j => neg (f j)) k = neg (optF mx f k)
  | 0 => rfl
  | 1 => rfl
  | k + 2 => by
    rw [optF_s, optF_s, optF_neg mx f (k + 1)]
    simp only [less_neg]
    cases mx <;> simp only [Bool.not_true, Bool.not_false, true_and, Bool.true_eq_false, Bool.false_eq_true, false_and, or_false, false_or] <;> split <;> rfl
/-- x is at least m (Q of m is positive). -/
def atL (m x : Int × Int) : Prop := m.1 * x.2 ≤ x.1 * m.2
theorem atL_of_not_less {m x y : Int × Int} (hx : 0 < x.2) (hy : 0 < y.2) (hm : 0 < m.2) (h : ¬ less x y) (ha : atL m y) : atL m x := by
  unfold less at h
  unfold atL at *
  have h1 : y.1 * x.2 ≤ x.1 * y.2 := by omega
  -- m1 * y2 ≤ y1 * m2 ; times x2 ; y1 * x2 ≤ x1 * y2 ; times m2
  have h2 : m.1 * y.2 * x.2 ≤ y.1 * m.2 * x.2 := Int.mul_le_mul_of_nonneg_right ha (by omega)
  have h3 : y.1 * x.2 * m.2 ≤ x.1 * y.2 * m.2 := Int.mul_le_mul_of_nonneg_right h1 (by omega)
  have e1 : y.1 * m.2 * x.2 = y.1 * x.2 * m.2 := by rw [Int.mul_assoc, Int.mul_comm m.2, ← Int.mul_assoc]
  have e2 : m.1 * y.2 * x.2 = (m.1 * x.2) * y.2 := by rw [Int.mul_assoc, Int.mul_comm y.2, ← Int.mul_assoc]
  have e3 : x.1 * y.2 * m.2 = (x.1 * m.2) * y.2 := by rw [Int.mul_assoc, Int.mul_comm y.2, ← Int.mul_assoc]
  rw [e1] at h2
  rw [e2] at h2
  rw [e3] at h3
  exact Int.le_of_mul_le_mul_right (Int.le_trans h2 h3) hy
theorem atL_of_less {m x y : Int × Int} (hx : 0 < x.2) (hy : 0 < y.2) (hm : 0 < m.2) (h : less x y) (ha : atL m x) : atL m y :=
  atL_of_not_less hy hx hm (by unfold less at *; omega) ha
theorem optF_atL_all {m : Int × Int} {f : Nat → Int × Int} (hm : 0 < m.2) : ∀ k, (∀ j, j < k → 0 < (f j).2) → atL m (optF false f k) → ∀ j, j < k → atL m (f j)
  | 0, _, _, j, h => by omega
  | 1, _, ha, j, h => by
    have : j = 0 := by omega
    subst this; exact ha
  | k + 2, hp, ha, j, h => by
    have ih := optF_atL_all hm (k + 1) (fun j hj => hp j (by omega))
    obtain ⟨i, hi, he⟩ := optF_ex false f (k + 1) (by omega)
    rw [optF_s] at ha
    simp only [true_and, Bool.false_eq_true, false_and, false_or] at ha
    have hpo : 0 < (optF false f (k + 1)).2 := by rw [he]; exact hp i (by omega)
    split at ha
    · rename_i hl
      have hb : atL m (optF false f (k + 1)) := atL_of_less (hp _ (by omega)) hpo hm hl ha
      by_cases hj : j = k + 1
      · subst hj; exact ha
      · exact ih hb j (by omega)
    · rename_i hn
      by_cases hj : j = k + 1
      · subst hj
        exact atL_of_not_less (hp _ (by omega)) hpo hm hn ha
      · exact ih ha j (by omega)

/-- The way so far, the latest first: vertex, and the sum ahead of it. -/
def findS (v : Nat) : List (Nat × Int) → Nat → Option (Nat × Int)
  | [], _ => none
  | (u, s) :: S, i => if u = v then some (i, s) else findS v S (i + 1)
def Gm.first (g : Gm) : Nat → List (Nat × Int) → Nat → Int → Int × Int
  | 0, _, _, _ => (0, 1)
  | f + 1, S, v, s =>
    match findS v S 0 with
    | some (i, s0) => (s - s0, (i : Int) + 1)
    | none => optF (g.mx v) (fun j => g.first f ((v, s) :: S) (g.to v j) (s + g.c v j)) (g.deg v)
def negS (S : List (Nat × Int)) : List (Nat × Int) := S.map fun x => (x.1, -x.2)
theorem findS_neg (v : Nat) : ∀ (S : List (Nat × Int)) (i : Nat), findS v (negS S) i = (findS v S i).map fun x => (x.1, -x.2)
  | [], i => rfl
  | (u, s) :: S, i => by
    show (if u = v then some (i, -s) else findS v (negS S) (i + 1)) = ((if u = v then some (i, s) else findS v S (i + 1)).map fun x => (x.1, -x.2))
    rw [findS_neg v S (i + 1)]
    split <;> rfl
theorem Gm.first_dual (g : Gm) : ∀ f S v s, g.dual.first f (negS S) v (-s) = neg (g.first f S v s)
  | 0, S, v, s => rfl
  | f + 1, S, v, s => by
    unfold Gm.first
    rw [findS_neg]
    cases hf : findS v S 0 with
    | some x =>
      obtain ⟨i, s0⟩ := x
      show (-s - -s0, (i : Int) + 1) = neg (s - s0, (i : Int) + 1)
      unfold neg
      simp only
      congr 1
      omega
    | none =>
      show optF (!g.mx v) (fun j => g.dual.first f ((v, -s) :: negS S) (g.to v j) (-s + -g.c v j)) (g.deg v) = neg (optF (g.mx v) _ (g.deg v))
      rw [← optF_neg]
      congr 1
      funext j
      rw [← g.first_dual f ((v, s) :: S) (g.to v j) (s + g.c v j)]
      show _ = g.dual.first f ((v, -s) :: negS S) (g.to v j) (-(s + g.c v j))
      congr 1
      omega

theorem findS_some {v : Nat} : ∀ {S : List (Nat × Int)} {i k : Nat} {s0 : Int}, findS v S i = some (k, s0) → ∃ j, k = i + j ∧ S[j]? = some (v, s0)
  | [], i, k, s0, h => by simp [findS] at h
  | (u, s) :: S, i, k, s0, h => by
    simp only [findS] at h
    split at h
    · rename_i e; subst e; cases h; exact ⟨0, rfl, rfl⟩
    · obtain ⟨j, h1, h2⟩ := findS_some h
      exact ⟨j + 1, by omega, by simpa using h2⟩
theorem findS_none {v : Nat} : ∀ {S : List (Nat × Int)} {i : Nat}, findS v S i = none → v ∉ S.map (·.1)
  | [], i, h => by simp
  | (u, s) :: S, i, h => by
    simp only [findS] at h
    split at h
    · cases h
    · rename_i e
      simp only [List.map_cons, List.mem_cons, not_or]
      exact ⟨fun h => e h.symm, findS_none h⟩

/-- A way that is one: no vertex twice, steps of at most W. -/
inductive Way (n : Nat) (W : Int) : List (Nat × Int) → Nat → Int → Prop
  | nil {v : Nat} : v < n → Way n W [] v 0
  | cons {S : List (Nat × Int)} {u : Nat} {r : Int} {v : Nat} {s : Int} : Way n W S u r → u ∉ S.map (·.1) → v < n → s ≤ r + W → r - W ≤ s → Way n W ((u, r) :: S) v s
theorem Way.lt {n : Nat} {W : Int} {S : List (Nat × Int)} {v : Nat} {s : Int} (h : Way n W S v s) : v < n := by cases h <;> assumption
theorem Way.mem {n : Nat} {W : Int} {S : List (Nat × Int)} {v : Nat} {s : Int} (h : Way n W S v s) : (S.map (·.1)).Nodup ∧ ∀ x ∈ S.map (·.1), x < n := by
  induction h with
  | nil _ => simp
  | cons h1 h2 h3 h4 h5 ih =>
    simp only [List.map_cons, List.nodup_cons]
    refine ⟨⟨h2, ih.1⟩, fun x hx => ?_⟩
    rcases List.mem_cons.1 hx with rfl | hx
    · exact h1.lt
    · exact ih.2 x hx
theorem nodup_len : ∀ (n : Nat) (l : List Nat), l.Nodup → (∀ x ∈ l, x < n) → l.length ≤ n
  | 0, l, _, h => by
    cases l with
    | nil => simp
    | cons x l => have := h x (by simp); omega
  | n + 1, l, hd, h => by
    have h1 : (l.filter (fun x => x ≠ n)).length ≤ n := nodup_len n _ (hd.filter _) fun x hx => by
      have := List.mem_filter.1 hx
      have h2 := h x this.1
      have h3 : x ≠ n := by simpa using this.2
      omega
    have h2 : l.length ≤ (l.filter (fun x => x ≠ n)).length + 1 := by
      clear h1 h
      induction l with
      | nil => simp
      | cons x l ih =>
        rw [List.nodup_cons] at hd
        by_cases hx : x = n
        · subst hx
          have : l.filter (fun y => y ≠ x) = l := List.filter_eq_self.2 fun y hy => by
            have : y ≠ x := fun e => hd.1 (e ▸ hy)
            simpa using this
          rw [List.filter_cons_of_neg (by simp), this]
          simp
        · rw [List.filter_cons_of_pos (by simpa using hx)]
          have := ih hd.2
          simp only [List.length_cons]
          omega
    omega
theorem Way.len {n : Nat} {W : Int} {S : List (Nat × Int)} {v : Nat} {s : Int} (h : Way n W S v s) : S.length ≤ n := by
  have := nodup_len n _ h.mem.1 h.mem.2
  simpa using this
theorem Way.len' {n : Nat} {W : Int} {S : List (Nat × Int)} {v : Nat} {s : Int} (h : Way n W S v s) (hv : v ∉ S.map (·.1)) : S.length + 1 ≤ n := by
  have := nodup_len n (v :: S.map (·.1)) (by rw [List.nodup_cons]; exact ⟨hv, h.mem.1⟩) fun x hx => by
    rcases List.mem_cons.1 hx with rfl | hx
    · exact h.lt
    · exact h.mem.2 x hx
  simpa using this
theorem Way.sum {n : Nat} {W : Int} {S : List (Nat × Int)} {v : Nat} {s : Int} (h : Way n W S v s) : -(S.length * W) ≤ s ∧ s ≤ S.length * W := by
  induction h with
  | nil _ => simp
  | cons h1 h2 h3 h4 h5 ih =>
    simp only [List.length_cons, Int.natCast_add, Int.add_mul, Int.natCast_one, Int.one_mul]
    omega
/-- Back to an earlier place of the way. -/
theorem Way.back {n : Nat} {W : Int} {S : List (Nat × Int)} {v : Nat} {s : Int} (h : Way n W S v s) : ∀ {j : Nat} {u : Nat} {r : Int}, S[j]? = some (u, r) → Way n W (S.drop (j + 1)) u r ∧ u ∉ (S.drop (j + 1)).map (·.1) ∧ s - r ≤ (j + 1) * W ∧ -((j + 1) * W) ≤ s - r := by
  induction h with
  | nil _ => intro j u r h; simp at h
  | @cons S u r v s h1 h2 h3 h4 h5 ih =>
    intro j u' r' h
    cases j with
    | zero =>
      simp at h
      obtain ⟨rfl, rfl⟩ := h
      simp only [List.drop_succ_cons, List.drop_zero]
      exact ⟨h1, h2, by omega, by omega⟩
    | succ j =>
      simp at h
      obtain ⟨k1, k2, k3, k4⟩ := ih h
      refine ⟨by simpa using k1, by simpa using k2, ?_, ?_⟩ <;>
      · simp only [Int.natCast_add, Int.add_mul, Int.natCast_one, Int.one_mul] at *
        omega

/-- The value is the mean of a loop of at most n steps. -/
theorem Gm.first_ok {g : Gm} {n : Nat} {W : Int} (hg : g.Ok n W) : ∀ f S v s, Way n W S v s → n + 1 ≤ f + S.length → 1 ≤ f → 1 ≤ (g.first f S v s).2 ∧ (g.first f S v s).2 ≤ n ∧ (g.first f S v s).1 ≤ (g.first f S v s).2 * W ∧ -((g.first f S v s).2 * W) ≤ (g.first f S v s).1
  | 0, S, v, s, hw, h, h1 => by omega
  | f + 1, S, v, s, hw, h, h1 => by
    unfold Gm.first
    cases hf : findS v S 0 with
    | some x =>
      obtain ⟨i, s0⟩ := x
      obtain ⟨j, hj, hS⟩ := findS_some hf
      obtain ⟨-, -, k3, k4⟩ := hw.back hS
      have hlt : j < S.length := (List.getElem?_eq_some_iff.1 hS).1
      have := hw.len
      have hij : i = j := by omega
      subst hij
      exact ⟨by simp only; omega, by simp only; omega, k3, k4⟩
    | none =>
      have hv := findS_none hf
      have hl := hw.len' hv
      obtain ⟨j, hj, he⟩ := optF_ex (g.mx v) (fun j => g.first f ((v, s) :: S) (g.to v j) (s + g.c v j)) (g.deg v) (hg.deg v hw.lt)
      simp only
      rw [he]
      have h2 := hg.lo v hw.lt j hj
      have h3 := hg.hi v hw.lt j hj
      exact g.first_ok hg f ((v, s) :: S) (g.to v j) (s + g.c v j) (.cons hw hv (hg.to v hw.lt j hj) (by omega) (by omega)) (by simp only [List.length_cons]; omega) (by omega)

/-- Along the way, it stayed at least m. -/
inductive Good (g : Gm) (n : Nat) (m : Int × Int) : List (Nat × Int) → Nat → Int → Prop
  | nil {v : Nat} : atL m (g.first (n + 1) [] v 0) → Good g n m [] v 0
  | cons {S : List (Nat × Int)} {u : Nat} {r : Int} {v : Nat} {s : Int} : Good g n m S u r → atL m (g.first (n + 1 - (S.length + 1)) ((u, r) :: S) v s) → Good g n m ((u, r) :: S) v s
theorem Good.here {g : Gm} {n : Nat} {m : Int × Int} {S : List (Nat × Int)} {v : Nat} {s : Int} (h : Good g n m S v s) : atL m (g.first (n + 1 - S.length) S v s) := by
  cases h with
  | nil h => exact h
  | cons h1 h2 => exact h2
theorem Good.back {g : Gm} {n : Nat} {m : Int × Int} {S : List (Nat × Int)} {v : Nat} {s : Int} (h : Good g n m S v s) : ∀ {j : Nat} {u : Nat} {r : Int}, S[j]? = some (u, r) → Good g n m (S.drop (j + 1)) u r := by
  induction h with
  | nil _ => intro j u r h; simp at h
  | cons h1 h2 ih =>
    intro j u' r' h
    cases j with
    | zero =>
      simp at h
      obtain ⟨rfl, rfl⟩ := h
      simpa using h1
    | succ j =>
      simp at h
      simpa using ih h
theorem Gm.step_good {g : Gm} {n : Nat} {W : Int} {m : Int × Int} (hg : g.Ok n W) (hm : 0 < m.2) {S : List (Nat × Int)} {v : Nat} {s : Int} (hw : Way n W S v s) (hv : v ∉ S.map (·.1)) (hgd : Good g n m S v s) (k : Nat) :
    ∃ j, j < g.deg v ∧ g.c v j + g.pay k (g.to v j) ≤ g.pay (k + 1) v ∧ atL m (g.first (n + 1 - (S.length + 1)) ((v, s) :: S) (g.to v j) (s + g.c v j)) := by
  have hl := hw.len' hv
  have h0 := hgd.here
  have hf : n + 1 - S.length = (n + 1 - (S.length + 1)) + 1 := by omega
  rw [hf] at h0
  unfold Gm.first at h0
  have hn : findS v S 0 = none := by
    cases h : findS v S 0 with
    | none => rfl
    | some x =>
      obtain ⟨i, s0⟩ := x
      obtain ⟨j, -, hS⟩ := findS_some h
      exact absurd (List.mem_map.2 ⟨_, List.mem_of_getElem? hS, rfl⟩) hv
  rw [hn] at h0
  simp only at h0
  have hpos : ∀ j, j < g.deg v → 0 < (g.first (n + 1 - (S.length + 1)) ((v, s) :: S) (g.to v j) (s + g.c v j)).2 := fun j hj => by
    have h2 := hg.lo v hw.lt j hj
    have h3 := hg.hi v hw.lt j hj
    have := (g.first_ok hg (n + 1 - (S.length + 1)) ((v, s) :: S) (g.to v j) (s + g.c v j) (.cons hw hv (hg.to v hw.lt j hj) (by omega) (by omega)) (by simp only [List.length_cons]; omega) (by omega)).1
    omega
  cases hmx : g.mx v with
  | true =>
    rw [hmx] at h0
    obtain ⟨j, hj, he⟩ := optF_ex true (fun j => g.first (n + 1 - (S.length + 1)) ((v, s) :: S) (g.to v j) (s + g.c v j)) (g.deg v) (hg.deg v hw.lt)
    rw [he] at h0
    refine ⟨j, hj, ?_, h0⟩
    show _ ≤ optB (g.mx v) (fun j => g.c v j + g.pay k (g.to v j)) (g.deg v)
    rw [hmx]
    exact optB_max (fun j => g.c v j + g.pay k (g.to v j)) (g.deg v) j hj
  | false =>
    rw [hmx] at h0
    obtain ⟨j, hj, he⟩ := optB_ex false (fun j => g.c v j + g.pay k (g.to v j)) (g.deg v) (hg.deg v hw.lt)
    refine ⟨j, hj, ?_, optF_atL_all hm _ hpos h0 j hj⟩
    show _ ≤ optB (g.mx v) (fun j => g.c v j + g.pay k (g.to v j)) (g.deg v)
    rw [hmx, he]
    exact Int.le_refl _
/-- So many steps bring at least so many times m, but for a bounded rest. -/
theorem Gm.pay_ge {g : Gm} {n : Nat} {W : Int} {m : Int × Int} (hg : g.Ok n W) (hW : 0 ≤ W) (hm : 0 < m.2) (hm1 : m.1 ≤ m.2 * W) (hm2 : -(m.2 * W) ≤ m.1) : ∀ k S v s, Way n W S v s → v ∉ S.map (·.1) → Good g n m S v s →
    k * m.1 - (m.2 * s - S.length * m.1) - 2 * (((n : Int) - 1) * (m.2 * W)) ≤ m.2 * g.pay k v
  | 0, S, v, s, hw, hv, hgd => by
    have hl := hw.len' hv
    have h1 := hw.sum
    show (0 : Nat) * m.1 - (m.2 * s - S.length * m.1) - 2 * (((n : Int) - 1) * (m.2 * W)) ≤ m.2 * 0
    have h2 : m.2 * -(S.length * W) ≤ m.2 * s := Int.mul_le_mul_of_nonneg_left h1.1 (by omega)
    have h3 : (S.length : Int) * m.1 ≤ S.length * (m.2 * W) := Int.mul_le_mul_of_nonneg_left hm1 (by omega)
    have hmw : 0 ≤ m.2 * W := Int.mul_nonneg (by omega) hW
    have h4 : (S.length : Int) * (m.2 * W) ≤ ((n : Int) - 1) * (m.2 * W) := Int.mul_le_mul_of_nonneg_right (by omega) hmw
    have h5 : m.2 * -(S.length * W) = -((S.length : Int) * (m.2 * W)) := by
      rw [Int.mul_neg, ← Int.mul_assoc, Int.mul_comm m.2, Int.mul_assoc]
    rw [h5] at h2
    simp only [Int.natCast_zero, Int.zero_mul, Int.mul_zero]
    omega
  | k + 1, S, v, s, hw, hv, hgd => by
    have hl := hw.len' hv
    obtain ⟨j, hj, hp, ha⟩ := g.step_good hg hm hw hv hgd k
    have h2 := hg.lo v hw.lt j hj
    have h3 := hg.hi v hw.lt j hj
    have hw' : Way n W ((v, s) :: S) (g.to v j) (s + g.c v j) := .cons hw hv (hg.to v hw.lt j hj) (by omega) (by omega)
    have hp2 : m.2 * (g.c v j + g.pay k (g.to v j)) ≤ m.2 * g.pay (k + 1) v := Int.mul_le_mul_of_nonneg_left hp (by omega)
    rw [Int.mul_add] at hp2
    cases hf : findS (g.to v j) ((v, s) :: S) 0 with
    | none =>
      have ih := g.pay_ge hg hW hm hm1 hm2 k _ _ _ hw' (findS_none hf) (.cons hgd ha)
      rw [List.length_cons, Int.mul_add] at ih
      simp only [Int.natCast_add, Int.natCast_one, Int.add_mul, Int.one_mul] at ih ⊢
      omega
    | some x =>
      obtain ⟨i, s0⟩ := x
      obtain ⟨i', hi', hS⟩ := findS_some hf
      have : i = i' := by omega
      subst this
      obtain ⟨k1, k2, -, -⟩ := hw'.back hS
      have k3 := Good.back (.cons hgd ha) hS
      have ih := g.pay_ge hg hW hm hm1 hm2 k _ _ _ k1 k2 k3
      have hlt : i < S.length + 1 := by have := (List.getElem?_eq_some_iff.1 hS).1; simpa using this
      have hF : n + 1 - (S.length + 1) = (n - (S.length + 1)) + 1 := by omega
      rw [hF] at ha
      unfold Gm.first at ha
      rw [hf] at ha
      simp only at ha
      unfold atL at ha
      simp only at ha
      have hd : (((v, s) :: S).drop (i + 1)).length = S.length + 1 - (i + 1) := by rw [List.length_drop]; simp
      rw [hd] at ih
      have hc : ((S.length + 1 - (i + 1) : Nat) : Int) = (S.length : Int) - i := by omega
      rw [hc] at ih
      have e1 : m.1 * ((i : Int) + 1) = i * m.1 + m.1 := by rw [Int.mul_add, Int.mul_one, Int.mul_comm]
      have e2 : (s + g.c v j - s0) * m.2 = m.2 * s + m.2 * g.c v j - m.2 * s0 := by rw [Int.mul_comm, Int.mul_sub, Int.mul_add]
      rw [e1, e2] at ha
      simp only [Int.natCast_add, Int.natCast_one, Int.add_mul, Int.sub_mul, Int.one_mul] at ih ⊢
      omega

/-- The mean value of a vertex. -/
def Gm.val (g : Gm) (n : Nat) (v : Nat) : Int × Int := g.first (n + 1) [] v 0
theorem Gm.val_ok {g : Gm} {n : Nat} {W : Int} (hg : g.Ok n W) {v : Nat} (hv : v < n) : 1 ≤ (g.val n v).2 ∧ (g.val n v).2 ≤ n ∧ (g.val n v).1 ≤ (g.val n v).2 * W ∧ -((g.val n v).2 * W) ≤ (g.val n v).1 :=
  g.first_ok hg (n + 1) [] v 0 (.nil hv) (by simp) (by omega)
theorem Gm.val_ge {g : Gm} {n : Nat} {W : Int} (hg : g.Ok n W) (hW : 0 ≤ W) {v : Nat} (hv : v < n) (k : Nat) : k * (g.val n v).1 - 2 * (((n : Int) - 1) * ((g.val n v).2 * W)) ≤ (g.val n v).2 * g.pay k v := by
  have h := g.val_ok hg hv
  have := g.pay_ge hg hW (m := g.val n v) (by omega) h.2.2.1 h.2.2.2 k [] v 0 (.nil hv) (by simp) (.nil (Int.le_refl _))
  simpa using this
theorem Gm.val_dual (g : Gm) (n v : Nat) : g.dual.val n v = neg (g.val n v) := g.first_dual (n + 1) [] v 0
theorem Gm.val_le {g : Gm} {n : Nat} {W : Int} (hg : g.Ok n W) (hW : 0 ≤ W) {v : Nat} (hv : v < n) (k : Nat) : (g.val n v).2 * g.pay k v ≤ k * (g.val n v).1 + 2 * (((n : Int) - 1) * ((g.val n v).2 * W)) := by
  have h := Gm.val_ge hg.dual hW hv k
  rw [g.val_dual, g.pay_dual] at h
  unfold neg at h
  simp only [Int.mul_neg] at h
  omega
theorem frOf_eq {a b c e : Int} (hb : 1 ≤ b) (he : 1 ≤ e) (h : a * e = c * b) : frOf a b = frOf c e := by
  have hg : (Int.gcd a b : Int) * e = Int.gcd c e * b := by
    have h1 : Int.gcd (a * e) (b * e) = Int.gcd a b * e.natAbs := Int.gcd_mul_right ..
    have h2 : Int.gcd (c * b) (e * b) = Int.gcd c e * b.natAbs := Int.gcd_mul_right ..
    rw [h, Int.mul_comm b e, h2] at h1
    have h3 : (e.natAbs : Int) = e := Int.natAbs_of_nonneg (by omega)
    have h4 : (b.natAbs : Int) = b := Int.natAbs_of_nonneg (by omega)
    have h5 : ((Int.gcd c e * b.natAbs : Nat) : Int) = ((Int.gcd a b * e.natAbs : Nat) : Int) := by rw [h1]
    simp only [Int.natCast_mul, h3, h4] at h5
    exact h5.symm
  have hg0 : 0 < (Int.gcd a b : Int) := by
    have : Int.gcd a b ≠ 0 := fun h0 => by rw [Int.gcd_eq_zero_iff] at h0; omega
    omega
  have hh0 : 0 < (Int.gcd c e : Int) := by
    have : Int.gcd c e ≠ 0 := fun h0 => by rw [Int.gcd_eq_zero_iff] at h0; omega
    omega
  obtain ⟨a', ha⟩ := Int.gcd_dvd_left (a := a) (b := b)
  obtain ⟨b', hb'⟩ := Int.gcd_dvd_right (a := a) (b := b)
  obtain ⟨c', hc⟩ := Int.gcd_dvd_left (a := c) (b := e)
  obtain ⟨e', he'⟩ := Int.gcd_dvd_right (a := c) (b := e)
  unfold frOf
  generalize (Int.gcd a b : Int) = g at *
  generalize (Int.gcd c e : Int) = k at *
  subst ha hb' hc he'
  have e1 : e' = b' := by
    have : (g * k) * e' = (g * k) * b' := by rw [Int.mul_assoc, hg, Int.mul_comm g k, Int.mul_assoc]
    exact Int.eq_of_mul_eq_mul_left (Int.ne_of_gt (Int.mul_pos hg0 hh0)) this
  subst e1
  have hpos : 0 < e' := by
    rcases Int.lt_or_le 0 e' with h' | h'
    · exact h'
    · have : k * e' ≤ 0 := Int.mul_nonpos_of_nonneg_of_nonpos (by omega) h'
      omega
  have e2 : a' = c' := by
    have h1 : (g * k * e') * a' = (g * k * e') * c' := by
      have e3 : g * a' * (k * e') = (g * k * e') * a' := by ac_rfl
      have e4 : k * c' * (g * e') = (g * k * e') * c' := by ac_rfl
      rw [← e3, ← e4]; exact h
    exact Int.eq_of_mul_eq_mul_left (Int.ne_of_gt (Int.mul_pos (Int.mul_pos hg0 hh0) hpos)) h1
  subst e2
  rw [Int.mul_tdiv_cancel_left _ (by omega), Int.mul_tdiv_cancel_left _ (by omega), Int.mul_tdiv_cancel_left _ (by omega), Int.mul_tdiv_cancel_left _ (by omega)]
/-- Two fractions of small denominators that are near the same quotient are the same. -/
theorem near_same {x S n W p q p0 q0 e : Int} (hn : 1 ≤ n) (hW : 1 ≤ W) (hq : 1 ≤ q) (hqn : q ≤ n) (hq0 : 1 ≤ q0) (hq0n : q0 ≤ n) (he : 0 ≤ e) (hS : (e + 2 * ((n - 1) * W)) * (n * n) < S)
    (h1 : x * q - p * S ≤ e * q) (h2 : -(e * q) ≤ x * q - p * S) (h3 : q0 * x ≤ S * p0 + 2 * ((n - 1) * (q0 * W))) (h4 : S * p0 - 2 * ((n - 1) * (q0 * W)) ≤ q0 * x) : p * q0 = p0 * q := by
  have g1 : (x * q - p * S) * q0 ≤ (e * q) * q0 := Int.mul_le_mul_of_nonneg_right h1 (by omega)
  have g2 : -(e * q) * q0 ≤ (x * q - p * S) * q0 := Int.mul_le_mul_of_nonneg_right h2 (by omega)
  have g3 : (q0 * x) * q ≤ (S * p0 + 2 * ((n - 1) * (q0 * W))) * q := Int.mul_le_mul_of_nonneg_right h3 (by omega)
  have g4 : (S * p0 - 2 * ((n - 1) * (q0 * W))) * q ≤ (q0 * x) * q := Int.mul_le_mul_of_nonneg_right h4 (by omega)
  have a1 : (x * q - p * S) * q0 = (q0 * x) * q - S * (p * q0) := by rw [Int.sub_mul]; congr 1 <;> ac_rfl
  have a2 : (S * p0 + 2 * ((n - 1) * (q0 * W))) * q = S * (p0 * q) + 2 * ((n - 1) * W) * (q * q0) := by rw [Int.add_mul]; congr 1 <;> ac_rfl
  have a3 : (S * p0 - 2 * ((n - 1) * (q0 * W))) * q = S * (p0 * q) - 2 * ((n - 1) * W) * (q * q0) := by rw [Int.sub_mul]; congr 1 <;> ac_rfl
  have a4 : (e * q) * q0 = e * (q * q0) := by ac_rfl
  have a5 : -(e * q) * q0 = -(e * (q * q0)) := by rw [Int.neg_mul, a4]
  rw [a1, a4] at g1
  rw [a1, a5] at g2
  rw [a2] at g3
  rw [a3] at g4
  have b1 : q * q0 ≤ n * n := Int.mul_le_mul hqn hq0n (by omega) (by omega)
  have b0 : 0 ≤ 2 * ((n - 1) * W) := Int.mul_nonneg (by omega) (Int.mul_nonneg (by omega) (by omega))
  have b2 : (e + 2 * ((n - 1) * W)) * (q * q0) ≤ (e + 2 * ((n - 1) * W)) * (n * n) := Int.mul_le_mul_of_nonneg_left b1 (by omega)
  rw [Int.add_mul] at b2
  have c1 : S * (p * q0) - S * (p0 * q) < S := by omega
  have c2 : S * (p0 * q) - S * (p * q0) < S := by omega
  rw [← Int.mul_sub] at c1 c2
  have hSp : 0 < S := by
    have : 0 ≤ (e + 2 * ((n - 1) * W)) * (n * n) := Int.mul_nonneg (by omega) (Int.mul_nonneg (by omega) (by omega))
    omega
  have d1 : p * q0 - p0 * q < 1 := by
    rcases Int.lt_or_le (p * q0 - p0 * q) 1 with h | h
    · exact h
    · have := Int.mul_le_mul_of_nonneg_left h (c := S) (by omega)
      omega
  have d2 : p0 * q - p * q0 < 1 := by
    rcases Int.lt_or_le (p0 * q - p * q0) 1 with h | h
    · exact h
    · have := Int.mul_le_mul_of_nonneg_left h (c := S) (by omega)
      omega
  omega
/-- The rest of so long a play is small. -/
theorem small {n W q : Int} (hn : 1 ≤ n) (hW : 1 ≤ W) (hq : 1 ≤ q) (hqn : q ≤ n) : 0 ≤ (n - 1) * (q * W) ∧ (n - 1) * (q * W) ≤ n * n * n * W - W ∧ 2 * ((n - 1) * W) * (n * n) = 2 * (n * n * n * W) - 2 * (n * n * W) ∧ W ≤ n * n * W ∧ (2 * n * W) * (n * n) = 2 * (n * n * n * W) ∧ n * n * W ≤ n * n * n * W := by
  have h0 : 0 ≤ (n - 1) * (q * W) := Int.mul_nonneg (by omega) (Int.mul_nonneg (by omega) (by omega))
  have h1 : q * W ≤ n * W := Int.mul_le_mul_of_nonneg_right hqn (by omega)
  have h2 : (n - 1) * (q * W) ≤ (n - 1) * (n * W) := Int.mul_le_mul_of_nonneg_left h1 (by omega)
  have e1 : (n - 1) * (n * W) = n * n * W - n * W := by rw [Int.sub_mul, Int.one_mul]; congr 1; ac_rfl
  have h3 : 1 * W ≤ n * W := Int.mul_le_mul_of_nonneg_right hn (by omega)
  have h4 : 1 * (n * W) ≤ n * (n * W) := Int.mul_le_mul_of_nonneg_right hn (by omega)
  have e4 : n * (n * W) = n * n * W := by ac_rfl
  have h5 : 1 * (n * n * W) ≤ n * (n * n * W) := Int.mul_le_mul_of_nonneg_right hn (Int.mul_nonneg (Int.mul_nonneg (by omega) (by omega)) (by omega))
  have e5 : n * (n * n * W) = n * n * n * W := by ac_rfl
  have e2 : 2 * ((n - 1) * W) * (n * n) = 2 * (n * n * n * W) - 2 * (n * n * W) := by
    rw [Int.sub_mul, Int.one_mul, Int.mul_sub, Int.sub_mul]; congr 1 <;> ac_rfl
  have e3 : (2 * n * W) * (n * n) = 2 * (n * n * n * W) := by ac_rfl
  omega

/-- The one side: whatever is accepted is the mean. -/
theorem accept_same {x n W p q p0 q0 : Int} (hn : 1 ≤ n) (hW : 1 ≤ W) (hq : 1 ≤ q) (hqn : q ≤ n) (hq0 : 1 ≤ q0) (hq0n : q0 ≤ n)
    (h1 : x * q - p * (4 * (n * n * n * W) + 1) ≤ (2 * n * W) * q) (h2 : -((2 * n * W) * q) ≤ x * q - p * (4 * (n * n * n * W) + 1))
    (h3 : q0 * x ≤ (4 * (n * n * n * W) + 1) * p0 + 2 * ((n - 1) * (q0 * W))) (h4 : (4 * (n * n * n * W) + 1) * p0 - 2 * ((n - 1) * (q0 * W)) ≤ q0 * x) : frOf p q = frOf p0 q0 := by
  have hs := small hn hW hq0 hq0n
  refine frOf_eq hq hq0 (near_same hn hW hq hqn hq0 hq0n (Int.mul_nonneg (Int.mul_nonneg (by omega) (by omega)) (by omega)) ?_ h1 h2 h3 h4)
  rw [Int.add_mul]
  omega
/-- .. and the mean is accepted. -/
theorem accept_mean {x n W p0 q0 : Int} (hn : 1 ≤ n) (hW : 1 ≤ W) (hq0 : 1 ≤ q0) (hq0n : q0 ≤ n)
    (h3 : q0 * x ≤ (4 * (n * n * n * W) + 1) * p0 + 2 * ((n - 1) * (q0 * W))) (h4 : (4 * (n * n * n * W) + 1) * p0 - 2 * ((n - 1) * (q0 * W)) ≤ q0 * x) :
    (x * q0 - p0 * (4 * (n * n * n * W) + 1) ≤ (2 * n * W) * q0 ∧ -((2 * n * W) * q0) ≤ x * q0 - p0 * (4 * (n * n * n * W) + 1)) ∧ (x * q0).tdiv (4 * (n * n * n * W) + 1) - 1 ≤ p0 ∧ p0 ≤ (x * q0).tdiv (4 * (n * n * n * W) + 1) + 1 := by
  have hs := small hn hW hq0 hq0n
  have e1 : (2 * n * W) * q0 = 2 * ((n - 1) * (q0 * W)) + 2 * (q0 * W) := by
    rw [Int.sub_mul, Int.mul_sub, Int.one_mul]
    have : 2 * n * W * q0 = 2 * (n * (q0 * W)) := by ac_rfl
    omega
  have e0 : 0 ≤ q0 * W := Int.mul_nonneg (by omega) (by omega)
  rw [Int.mul_comm x q0, Int.mul_comm p0]
  refine ⟨⟨by omega, by omega⟩, ?_⟩
  generalize hS : 4 * (n * n * n * W) + 1 = S at *
  generalize q0 * x = y at *
  have hSp : 0 < S := by omega
  -- |y - S * p0| < S
  have b1 : y - S * p0 < S := by omega
  have b2 : S * p0 - y < S := by omega
  have t1 := Int.mul_tdiv_add_tmod y S
  have t2 : (y.tmod S).natAbs < S.natAbs := by
    rw [Int.natAbs_tmod]
    exact Nat.mod_lt _ (by omega)
  generalize y.tdiv S = t at *
  generalize y.tmod S = r at *
  have c1 : S * t - S * p0 < 2 * S := by omega
  have c2 : S * p0 - S * t < 2 * S := by omega
  rw [← Int.mul_sub] at c1 c2
  constructor
  · rcases Int.lt_or_le (t - p0) 2 with h | h
    · omega
    · have := Int.mul_le_mul_of_nonneg_left h (c := S) (by omega)
      omega
  · rcases Int.lt_or_le (p0 - t) 2 with h | h
    · omega
    · have := Int.mul_le_mul_of_nonneg_left h (c := S) (by omega)
      omega
/-- The other side: the nearest is the mean. -/
theorem nearest_same {x n W p q p0 q0 : Int} (hn : 1 ≤ n) (hW : 1 ≤ W) (hq : 1 ≤ q) (hqn : q ≤ n) (hq0 : 1 ≤ q0) (hq0n : q0 ≤ n)
    (h1 : x * q - p * (4 * (n * n * n * W)) ≤ (2 * ((n - 1) * W)) * q) (h2 : -((2 * ((n - 1) * W)) * q) ≤ x * q - p * (4 * (n * n * n * W)))
    (h3 : q0 * x ≤ (4 * (n * n * n * W)) * p0 + 2 * ((n - 1) * (q0 * W))) (h4 : (4 * (n * n * n * W)) * p0 - 2 * ((n - 1) * (q0 * W)) ≤ q0 * x) : frOf p q = frOf p0 q0 := by
  have hs := small hn hW hq0 hq0n
  refine frOf_eq hq hq0 (near_same hn hW hq hqn hq0 hq0n (Int.mul_nonneg (by omega) (Int.mul_nonneg (by omega) (by omega))) ?_ h1 h2 h3 h4)
  rw [Int.add_mul]
  omega
/-- .. rounded, a denominator q gives no more than any other numerator. -/
theorem round_near {y S p0 p : Int} (hS : 0 < S) (hp : p = (2 * y + S) / (2 * S)) (h1 : 2 * (y - p0 * S) < S) (h2 : 2 * (p0 * S - y) < S) : p = p0 := by
  have t1 := Int.mul_ediv_add_emod (2 * y + S) (2 * S)
  have t2 := Int.emod_nonneg (2 * y + S) (b := 2 * S) (by omega)
  have t3 := Int.emod_lt_of_pos (2 * y + S) (b := 2 * S) (by omega)
  rw [← hp] at t1
  generalize (2 * y + S) % (2 * S) = r at *
  have e1 : 2 * S * p = 2 * (S * p) := by ac_rfl
  have e2 : p0 * S = S * p0 := Int.mul_comm ..
  rw [e1] at t1
  rw [e2] at h1 h2
  have c1 : S * p - S * p0 < S := by omega
  have c2 : S * p0 - S * p < S := by omega
  rw [← Int.mul_sub] at c1 c2
  have d1 : p - p0 < 1 := by
    rcases Int.lt_or_le (p - p0) 1 with h | h
    · exact h
    · have := Int.mul_le_mul_of_nonneg_left h (c := S) (by omega)
      omega
  have d2 : p0 - p < 1 := by
    rcases Int.lt_or_le (p0 - p) 1 with h | h
    · exact h
    · have := Int.mul_le_mul_of_nonneg_left h (c := S) (by omega)
      omega
  omega
end Go.Proofs.Ytdbecmmeifdafaa.MV
