/- The value of a mean-payoff game: the game of the first loop is within a bounded rest of every long play; and what both sides' rounding finds. Plain. -/
import Derived.Test.YtdbecmmeifdafaaB9zbm
import Derived.Test.YtdbecmmeifdafaaB8zbm
import Derived.Test.YtdbecmmeifdafaaB4zbm
namespace Go.Proofs.Ytdbecmmeifdafaa.MV
open Go.RowKit
set_option linter.unusedVariables false
set_option linter.unusedSimpArgs false

def optB (mx : Bool) (f : Nat → Int) : Nat → Int
  | 0 => 0
  | 1 => f 0
  | k + 2 => if (mx = true ∧ f (k + 1) > optB mx f (k + 1)) ∨ (mx = false ∧ f (k + 1) < optB mx f (k + 1)) then f (k + 1) else optB mx f (k + 1)
theorem optB_s (mx : Bool) (f : Nat → Int) (k : Nat) : optB mx f (k + 2) = if (mx = true ∧ f (k + 1) > optB mx f (k + 1)) ∨ (mx = false ∧ f (k + 1) < optB mx f (k + 1)) then f (k + 1) else optB mx f (k + 1) := rfl
theorem optB_ex (mx : Bool) (f : Nat → Int) : ∀ k, 1 ≤ k → ∃ j, j < k ∧ optB mx f k = f j
  | 1, _ => ⟨0, by omega, rfl⟩
  | k + 2, _ => by
    obtain ⟨j, hj, he⟩ := optB_ex mx f (k + 1) (by omega)
    rw [optB_s]
    split
    · exact ⟨k + 1, by omega, rfl⟩
    · exact ⟨j, by omega, he⟩
theorem optB_max (f : Nat → Int) : ∀ k j, j < k → f j ≤ optB true f k
  | 0, j, h => by omega
  | 1, j, h => by have : j = 0 := by omega
                  subst this; exact Int.le_refl _
  | k + 2, j, h => by
    rw [optB_s]
    have ih := optB_max f (k + 1)
    simp only [true_and, Bool.true_eq_false, false_and, or_false]
    by_cases hj : j = k + 1
    · subst hj; split <;> omega
    · have := ih j (by omega); split <;> omega
theorem optB_neg (mx : Bool) (f : Nat → Int) : ∀ k, optB (!mx) (fun j => -f j) k = -optB mx f k
  | 0 => rfl
  | 1 => rfl
  | k + 2 => by
    rw [optB_s, optB_s, optB_neg mx f (k + 1)]
    cases mx <;> simp only [Bool.not_true, Bool.not_false, true_and, Bool.true_eq_false, Bool.false_eq_true, false_and, or_false, false_or] <;> split <;> split <;> omega
structure Gm where
  mx : Nat → Bool
  deg : Nat → Nat
  to : Nat → Nat → Nat
  c : Nat → Nat → Int
def Gm.dual (g : Gm) : Gm := ⟨fun v => !g.mx v, g.deg, g.to, fun v j => -g.c v j⟩
structure Gm.Ok (g : Gm) (n : Nat) (W : Int) : Prop where
  deg : ∀ v, v < n → 1 ≤ g.deg v
  to : ∀ v, v < n → ∀ j, j < g.deg v → g.to v j < n
  lo : ∀ v, v < n → ∀ j, j < g.deg v → -W ≤ g.c v j
  hi : ∀ v, v < n → ∀ j, j < g.deg v → g.c v j ≤ W
theorem Gm.Ok.dual {g : Gm} {n : Nat} {W : Int} (h : g.Ok n W) : g.dual.Ok n W :=
  ⟨h.deg, h.to, fun v hv j hj => by have := h.hi v hv j hj; show -W ≤ -g.c v j; omega, fun v hv j hj => by have := h.lo v hv j hj; show -g.c v j ≤ W; omega⟩

def Gm.pay (g : Gm) : Nat → Nat → Int
  | 0, _ => 0
  | k + 1, v => optB (g.mx v) (fun j => g.c v j + g.pay k (g.to v j)) (g.deg v)
theorem Gm.pay_dual (g : Gm) : ∀ k v, g.dual.pay k v = -g.pay k v
  | 0, v => rfl
  | k + 1, v => by
    show optB (!g.mx v) (fun j => -g.c v j + g.dual.pay k (g.to v j)) (g.deg v) = -optB (g.mx v) (fun j => g.c v j + g.pay k (g.to v j)) (g.deg v)
    rw [← optB_neg]
    congr 1
    funext j
    rw [g.pay_dual k]
    omega

def less (x y : Int × Int) : Prop := x.1 * y.2 < y.1 * x.2
instance (x y : Int × Int) : Decidable (less x y) := by unfold less; exact inferInstance
def optF (mx : Bool) (f : Nat → Int × Int) : Nat → Int × Int
  | 0 => (0, 1)
  | 1 => f 0
  | k + 2 => if (mx = true ∧ less (optF mx f (k + 1)) (f (k + 1))) ∨ (mx = false ∧ less (f (k + 1)) (optF mx f (k + 1))) then f (k + 1) else optF mx f (k + 1)
theorem optF_s (mx : Bool) (f : Nat → Int × Int) (k : Nat) : optF mx f (k + 2) = if (mx = true ∧ less (optF mx f (k + 1)) (f (k + 1))) ∨ (mx = false ∧ less (f (k + 1)) (optF mx f (k + 1))) then f (k + 1) else optF mx f (k + 1) := rfl
theorem optF_ex (mx : Bool) (f : Nat → Int × Int) : ∀ k, 1 ≤ k → ∃ j, j < k ∧ optF mx f k = f j
  | 1, _ => ⟨0, by omega, rfl⟩
  | k + 2, _ => by
    obtain ⟨j, hj, he⟩ := optF_ex mx f (k + 1) (by omega)
    rw [optF_s]
    split
    · exact ⟨k + 1, by omega, rfl⟩
    · exact ⟨j, by omega, he⟩
def neg (x : Int × Int) : Int × Int := (-x.1, x.2)
theorem less_neg (x y : Int × Int) : less (neg x) (neg y) ↔ less y x := by
  unfold less neg
  simp only [Int.neg_mul]
  omega
theorem optF_neg (mx : Bool) (f : Nat → Int × Int) : ∀ k, optF (!mx) (fun j => neg (f j)) k = neg (optF mx f k)
  | 0 => rfl
  | 1 => rfl
  | k + 2 => by
    rw [optF_s, optF_s, optF_neg mx f (k + 1)]
    simp only [less_neg]
    cases mx <;> simp only [Bool.not_true, Bool.not_false, true_and, Bool.true_eq_false, Bool.false_eq_true, false_and, or_false, false_or] <;> split <;> rfl
def atL (m x : Int × Int) : Prop := m.1 * x.2 ≤ x.1 * m.2
theorem atL_of_not_less {m x y : Int × Int} (hx : 0 < x.2) (hy : 0 < y.2) (hm : 0 < m.2) (h : ¬ less x y) (ha : atL m y) : atL m x := by
  unfold less at h
  unfold atL at *
  have h1 : y.1 * x.2 ≤ x.1 * y.2 := by omega
  -- m1 * y2 ≤ y1 * m2 ; times x2 ; y1 * x2 ≤ x1 * y2 ; times m2
  have h2 : m.1 * y.2 * x.2 ≤ y.1 * m.2 * x.2 := Int.mul_le_mul_of_nonneg_right ha (by omega)
  have h3 : y.1 * x.2 * m.2 ≤ x.1 * y.2 * m.2 := Int.mul_le_mul_of_nonneg_right h1 (by omega)
  have e1 : y.1 * m.2 * x.2 = y.1 * x.2 * m.2 := by rw [Int.mul_assoc, Int.mul_comm m.2, ← Int.mul_assoc]
  have e2 : m.1 * y.2 * x.2 = (m.1 * x.2) * y.2 := by rw [Int.mul_assoc, Int.mul_comm y.2, ← Int.mul_assoc]
  have e3 : x.1 * y.2 * m.2 = (x.1 * m.2) * y.2 := by rw [Int.mul_assoc, Int.mul_comm y.2, ← Int.mul_assoc]
  rw [e1] at h2
  rw [e2] at h2
  rw [e3] at h3
  exact Int.le_of_mul_le_mul_right (Int.le_trans h2 h3) hy
theorem atL_of_less {m x y : Int × Int} (hx : 0 < x.2) (hy : 0 < y.2) (hm : 0 < m.2) (h : less x y) (ha : atL m x) : atL m y :=
  atL_of_not_less hy hx hm (by unfold less at *; omega) ha
theorem optF_atL_max {m : Int × Int} {f : Nat → Int × Int} (hm : 0 < m.2) : ∀ k, (∀ j, j < k → 0 < (f j).2) → ∀ j, j < k → atL m (f j) → atL m (optF true f k)
  | 0, _, j, h, _ => by omega
  | 1, _, j, h, ha => by
    have : j = 0 := by omega
    subst this; exact ha
  | k + 2, hp, j, h, ha => by
    have ih := optF_atL_max hm (k + 1) (fun j hj => hp j (by omega))
    obtain ⟨i, hi, he⟩ := optF_ex true f (k + 1) (by omega)
    rw [optF_s]
    simp only [true_and, Bool.true_eq_false, false_and, or_false]
    have hpo : 0 < (optF true f (k + 1)).2 := by rw [he]; exact hp i (by omega)
    by_cases hj : j = k + 1
    · subst hj
      split
      · exact ha
      · rename_i hn
        exact atL_of_not_less hpo (hp _ (by omega)) hm hn ha
    · have h1 := ih j (by omega) ha
      split
      · rename_i hl
        exact atL_of_less hpo (hp _ (by omega)) hm hl h1
      · exact h1
theorem optF_atL_all {m : Int × Int} {f : Nat → Int × Int} (hm : 0 < m.2) : ∀ k, (∀ j, j < k → 0 < (f j).2) → atL m (optF false f k) → ∀ j, j < k → atL m (f j)
  | 0, _, _, j, h => by omega
  | 1, _, ha, j, h => by
    have : j = 0 := by omega
    subst this; exact ha
  | k + 2, hp, ha, j, h => by
    have ih := optF_atL_all hm (k + 1) (fun j hj => hp j (by omega))
    obtain ⟨i, hi, he⟩ := optF_ex false f (k + 1) (by omega)
    rw [optF_s] at ha
    simp only [true_and, Bool.false_eq_true, false_and, false_or] at ha
    have hpo : 0 < (optF false f (k + 1)).2 := by rw [he]; exact hp i (by omega)
    split at ha
    · rename_i hl
      have hb : atL m (optF false f (k + 1)) := atL_of_less (hp _ (by omega)) hpo hm hl ha
      by_cases hj : j = k + 1
      · subst hj; exact ha
      · exact ih hb j (by omega)
    · rename_i hn
      by_cases hj : j = k + 1
      · subst hj
        exact atL_of_not_less (hp _ (by omega)) hpo hm hn ha
      · exact ih ha j (by omega)

def findS (v : Nat) : List (Nat × Int) → Nat → Option (Nat × Int)
  | [], _ => none
  | (u, s) :: S, i => if u = v then some (i, s) else findS v S (i + 1)
def Gm.first (g : Gm) : Nat → List (Nat × Int) → Nat → Int → Int × Int
  | 0, _, _, _ => (0, 1)
  | f + 1, S, v, s =>
    match findS v S 0 with
    | some (i, s0) => (s - s0, (i : Int) + 1)
    | none => optF (g.mx v) (fun j => g.first f ((v, s) :: S) (g.to v j) (s + g.c v j)) (g.deg v)
def negS (S : List (Nat × Int)) : List (Nat × Int) := S.map fun x => (x.1, -x.2)
theorem findS_neg (v : Nat) : ∀ (S : List (Nat × Int)) (i : Nat), findS v (negS S) i = (findS v S i).map fun x => (x.1, -x.2)
  | [], i => rfl
  | (u, s) :: S, i => by
    show (if u = v then some (i, -s) else findS v (negS S) (i + 1)) = ((if u = v then some (i, s) else findS v S (i + 1)).map fun x => (x.1, -x.2))
    rw [findS_neg v S (i + 1)]
    split <;> rfl
theorem Gm.first_dual (g : Gm) : ∀ f S v s, g.dual.first f (negS S) v (-s) = neg (g.first f S v s)
  | 0, S, v, s => rfl
  | f + 1, S, v, s => by
    unfold Gm.first
    rw [findS_neg]
    cases hf : findS v S 0 with
    | some x =>
      obtain ⟨i, s0⟩ := x
      show (-s - -s0, (i : Int) + 1) = neg (s - s0, (i : Int) + 1)
      unfold neg
      simp only
      congr 1
      omega
    | none =>
      show optF (!g.mx v) (fun j => g.dual.first f ((v, -s) :: negS S) (g.to v j) (-s + -g.c v j)) (g.deg v) = neg (optF (g.mx v) _ (g.deg v))
      rw [← optF_neg]
      congr 1
      funext j
      rw [← g.first_dual f ((v, s) :: S) (g.to v j) (s + g.c v j)]
      show _ = g.dual.first f ((v, -s) :: negS S) (g.to v j) (-(s + g.c v j))
      congr 1
      omega

theorem findS_some {v : Nat} : ∀ {S : List (Nat × Int)} {i k : Nat} {s0 : Int}, findS v S i = some (k, s0) → ∃ j, k = i + j ∧ S[j]? = some (v, s0)
  | [], i, k, s0, h => by simp [findS] at h
  | (u, s) :: S, i, k, s0, h => by
    simp only [findS] at h
    split at h
    · rename_i e; subst e; cases h; exact ⟨0, rfl, rfl⟩
    · obtain ⟨j, h1, h2⟩ := findS_some h
      exact ⟨j + 1, by omega, by simpa using h2⟩
theorem findS_none {v : Nat} : ∀ {S : List (Nat × Int)} {i : Nat}, findS v S i = none → v ∉ S.map (·.1)
  | [], i, h => by simp
  | (u, s) :: S, i, h => by
    simp only [findS] at h
    split at h
    · cases h
    · rename_i e
      simp only [List.map_cons, List.mem_cons, not_or]
      exact ⟨fun h => e h.symm, findS_none h⟩

inductive Way (n : Nat) (W : Int) : List (Nat × Int) → Nat → Int → Prop
  | nil {v : Nat} : v < n → Way n W [] v 0
  | cons {S : List (Nat × Int)} {u : Nat} {r : Int} {v : Nat} {s : Int} : Way n W S u r → u ∉ S.map (·.1) → v < n → s ≤ r + W → r - W ≤ s → Way n W ((u, r) :: S) v s
theorem Way.lt {n : Nat} {W : Int} {S : List (Nat × Int)} {v : Nat} {s : Int} (h : Way n W S v s) : v < n := by cases h <;> assumption
theorem Way.mem {n : Nat} {W : Int} {S : List (Nat × Int)} {v : Nat} {s : Int} (h : Way n W S v s) : (S.map (·.1)).Nodup ∧ ∀ x ∈ S.map (·.1), x < n := by
  induction h with
  | nil _ => simp
  | cons h1 h2 h3 h4 h5 ih =>
    simp only [List.map_cons, List.nodup_cons]
    refine ⟨⟨h2, ih.1⟩, fun x hx => ?_⟩
    rcases List.mem_cons.1 hx with rfl | hx
    · exact h1.lt
    · exact ih.2 x hx
theorem nodup_len : ∀ (n : Nat) (l : List Nat), l.Nodup → (∀ x ∈ l, x < n) → l.length ≤ n
  | 0, l, _, h => by
    cases l with
    | nil => simp
    | cons x l => have := h x (by simp); omega
  | n + 1, l, hd, h => by
    have h1 : (l.filter (fun x => x ≠ n)).length ≤ n := nodup_len n _ (hd.filter _) fun x hx => by
      have := List.mem_filter.1 hx
      have h2 := h x this.1
      have h3 : x ≠ n := by simpa using this.2
      omega
    have h2 : l.length ≤ (l.filter (fun x => x ≠ n)).length + 1 := by
      clear h1 h
      induction l with
      | nil => simp
      | cons x l ih =>
        rw [List.nodup_cons] at hd
        by_cases hx : x = n
        · subst hx
          have : l.filter (fun y => y ≠ x) = l := List.filter_eq_self.2 fun y hy => by
            have : y ≠ x := fun e => hd.1 (e ▸ hy)
            simpa using this
          rw [List.filter_cons_of_neg (by simp), this]
          simp
        · rw [List.filter_cons_of_pos (by simpa using hx)]
          have := ih hd.2
          simp only [List.length_cons]
          omega
    omega
theorem Way.len {n : Nat} {W : Int} {S : List (Nat × Int)} {v : Nat} {s : Int} (h : Way n W S v s) : S.length ≤ n := by
  have := nodup_len n _ h.mem.1 h.mem.2
  simpa using this
theorem Way.len' {n : Nat} {W : Int} {S : List (Nat × Int)} {v : Nat} {s : Int} (h : Way n W S v s) (hv : v ∉ S.map (·.1)) : S.length + 1 ≤ n := by
  have := nodup_len n (v :: S.map (·.1)) (by rw [List.nodup_cons]; exact ⟨hv, h.mem.1⟩) fun x hx => by
    rcases List.mem_cons.1 hx with rfl | hx
    · exact h.lt
    · exact h.mem.2 x hx
  simpa using this
theorem Way.sum {n : Nat} {W : Int} {S : List (Nat × Int)} {v : Nat} {s : Int} (h : Way n W S v s) : -(S.length * W) ≤ s ∧ s ≤ S.length * W := by
  induction h with
  | nil _ => simp
  | cons h1 h2 h3 h4 h5 ih =>
    simp only [List.length_cons, Int.natCast_add, Int.add_mul, Int.natCast_one, Int.one_mul]
    omega
theorem Way.back {n : Nat} {W : Int} {S : List (Nat × Int)} {v : Nat} {s : Int} (h : Way n W S v s) : ∀ {j : Nat} {u : Nat} {r : Int}, S[j]? = some (u, r) → Way n W (S.drop (j + 1)) u r ∧ u ∉ (S.drop (j + 1)).map (·.1) ∧ s - r ≤ (j + 1) * W ∧ -((j + 1) * W) ≤ s - r := by
  induction h with
  | nil _ => intro j u r h; simp at h
  | @cons S u r v s h1 h2 h3 h4 h5 ih =>
    intro j u' r' h
    cases j with
    | zero =>
      simp at h
      obtain ⟨rfl, rfl⟩ := h
      simp only [List.drop_succ_cons, List.drop_zero]
      exact ⟨h1, h2, by omega, by omega⟩
    | succ j =>
      simp at h
      obtain ⟨k1, k2, k3, k4⟩ := ih h
      refine ⟨by simpa using k1, by simpa using k2, ?_, ?_⟩ <;>
      · simp only [Int.natCast_add, Int.add_mul, Int.natCast_one, Int.one_mul] at *
        omega

theorem Gm.first_ok {g : Gm} {n : Nat} {W : Int} (hg : g.Ok n W) : ∀ f S v s, Way n W S v s → n + 1 ≤ f + S.length → 1 ≤ f → 1 ≤ (g.first f S v s).2 ∧ (g.first f S v s).2 ≤ n ∧ (g.first f S v s).1 ≤ (g.first f S v s).2 * W ∧ -((g.first f S v s).2 * W) ≤ (g.first f S v s).1
  | 0, S, v, s, hw, h, h1 => by omega
  | f + 1, S, v, s, hw, h, h1 => by
    unfold Gm.first
    cases hf : findS v S 0 with
    | some x =>
      obtain ⟨i, s0⟩ := x
      obtain ⟨j, hj, hS⟩ := findS_some hf
      obtain ⟨-, -, k3, k4⟩ := hw.back hS
      have hlt : j < S.length := (List.getElem?_eq_some_iff.1 hS).1
      have := hw.len
      have hij : i = j := by omega
      subst hij
      exact ⟨by simp only; omega, by simp only; omega, k3, k4⟩
    | none =>
      have hv := findS_none hf
      have hl := hw.len' hv
      obtain ⟨j, hj, he⟩ := optF_ex (g.mx v) (fun j => g.first f ((v, s) :: S) (g.to v j) (s + g.c v j)) (g.deg v) (hg.deg v hw.lt)
      simp only
      rw [he]
      have h2 := hg.lo v hw.lt j hj
      have h3 := hg.hi v hw.lt j hj
      exact g.first_ok hg f ((v, s) :: S) (g.to v j) (s + g.c v j) (.cons hw hv (hg.to v hw.lt j hj) (by omega) (by omega)) (by simp only [List.length_cons]; omega) (by omega)

inductive Good (g : Gm) (n : Nat) (m : Int × Int) : List (Nat × Int) → Nat → Int → Prop
  | nil {v : Nat} : atL m (g.first (n + 1) [] v 0) → Good g n m [] v 0
  | cons {S : List (Nat × Int)} {u : Nat} {r : Int} {v : Nat} {s : Int} : Good g n m S u r → atL m (g.first (n + 1 - (S.length + 1)) ((u, r) :: S) v s) → Good g n m ((u, r) :: S) v s
theorem Good.here {g : Gm} {n : Nat} {m : Int × Int} {S : List (Nat × Int)} {v : Nat} {s : Int} (h : Good g n m S v s) : atL m (g.first (n + 1 - S.length) S v s) := by
  cases h with
  | nil h => exact h
  | cons h1 h2 => exact h2
theorem Good.back {g : Gm} {n : Nat} {m : Int × Int} {S : List (Nat × Int)} {v : Nat} {s : Int} (h : Good g n m S v s) : ∀ {j : Nat} {u : Nat} {r : Int}, S[j]? = some (u, r) → Good g n m (S.drop (j + 1)) u r := by
  induction h with
  | nil _ => intro j u r h; simp at h
  | cons h1 h2 ih =>
    intro j u' r' h
    cases j with
    | zero =>
      simp at h
      obtain ⟨rfl, rfl⟩ := h
      simpa using h1
    | succ j =>
      simp at h
      simpa using ih h
theorem Gm.step_good {g : Gm} {n : Nat} {W : Int} {m : Int × Int} (hg : g.Ok n W) (hm : 0 < m.2) {S : List (Nat × Int)} {v : Nat} {s : Int} (hw : Way n W S v s) (hv : v ∉ S.map (·.1)) (hgd : Good g n m S v s) (k : Nat) :
    ∃ j, j < g.deg v ∧ g.c v j + g.pay k (g.to v j) ≤ g.pay (k + 1) v ∧ atL m (g.first (n + 1 - (S.length + 1)) ((v, s) :: S) (g.to v j) (s + g.c v j)) := by
  have hl := hw.len' hv
  have h0 := hgd.here
  have hf : n + 1 - S.length = (n + 1 - (S.length + 1)) + 1 := by omega
  rw [hf] at h0
  unfold Gm.first at h0
  have hn : findS v S 0 = none := by
    cases h : findS v S 0 with
    | none => rfl
    | some x =>
      obtain ⟨i, s0⟩ := x
      obtain ⟨j, -, hS⟩ := findS_some h
      exact absurd (List.mem_map.2 ⟨_, List.mem_of_getElem? hS, rfl⟩) hv
  rw [hn] at h0
  simp only at h0
  have hpos : ∀ j, j < g.deg v → 0 < (g.first (n + 1 - (S.length + 1)) ((v, s) :: S) (g.to v j) (s + g.c v j)).2 := fun j hj => by
    have h2 := hg.lo v hw.lt j hj
    have h3 := hg.hi v hw.lt j hj
    have := (g.first_ok hg (n + 1 - (S.length + 1)) ((v, s) :: S) (g.to v j) (s + g.c v j) (.cons hw hv (hg.to v hw.lt j hj) (by omega) (by omega)) (by simp only [List.length_cons]; omega) (by omega)).1
    omega
  cases hmx : g.mx v with
  | true =>
    rw [hmx] at h0
    obtain ⟨j, hj, he⟩ := optF_ex true (fun j => g.first (n + 1 - (S.length + 1)) ((v, s) :: S) (g.to v j) (s + g.c v j)) (g.deg v) (hg.deg v hw.lt)
    rw [he] at h0
    refine ⟨j, hj, ?_, h0⟩
    show _ ≤ optB (g.mx v) (fun j => g.c v j + g.pay k (g.to v j)) (g.deg v)
    rw [hmx]
    exact optB_max (fun j => g.c v j + g.pay k (g.to v j)) (g.deg v) j hj
  | false =>
    rw [hmx] at h0
    obtain ⟨j, hj, he⟩ := optB_ex false (fun j => g.c v j + g.pay k (g.to v j)) (g.deg v) (hg.deg v hw.lt)
    refine ⟨j, hj, ?_, optF_atL_all hm _ hpos h0 j hj⟩
    show _ ≤ optB (g.mx v) (fun j => g.c v j + g.pay k (g.to v j)) (g.deg v)
    rw [hmx, he]
    exact Int.le_refl _
theorem Gm.pay_ge {g : Gm} {n : Nat} {W : Int} {m : Int × Int} (hg : g.Ok n W) (hW : 0 ≤ W) (hm : 0 < m.2) (hm1 : m.1 ≤ m.2 * W) (hm2 : -(m.2 * W) ≤ m.1) : ∀ k S v s, Way n W S v s → v ∉ S.map (·.1) → Good g n m S v s →
    k * m.1 - (m.2 * s - S.length * m.1) - 2 * (((n : Int) - 1) * (m.2 * W)) ≤ m.2 * g.pay k v
  | 0, S, v, s, hw, hv, hgd => by
    have hl := hw.len' hv
    have h1 := hw.sum
    show (0 : Nat) * m.1 - (m.2 * s - S.length * m.1) - 2 * (((n : Int) - 1) * (m.2 * W)) ≤ m.2 * 0
    have h2 : m.2 * -(S.length * W) ≤ m.2 * s := Int.mul_le_mul_of_nonneg_left h1.1 (by omega)
    have h3 : (S.length : Int) * m.1 ≤ S.length * (m.2 * W) := Int.mul_le_mul_of_nonneg_left hm1 (by omega)
    have hmw : 0 ≤ m.2 * W := Int.mul_nonneg (by omega) hW
    have h4 : (S.length : Int) * (m.2 * W) ≤ ((n : Int) - 1) * (m.2 * W) := Int.mul_le_mul_of_nonneg_right (by omega) hmw
    have h5 : m.2 * -(S.length * W) = -((S.length : Int) * (m.2 * W)) := by
      rw [Int.mul_neg, ← Int.mul_assoc, Int.mul_comm m.2, Int.mul_assoc]
    rw [h5] at h2
    simp only [Int.natCast_zero, Int.zero_mul, Int.mul_zero]
    omega
  | k + 1, S, v, s, hw, hv, hgd => by
    have hl := hw.len' hv
    obtain ⟨j, hj, hp, ha⟩ := g.step_good hg hm hw hv hgd k
    have h2 := hg.lo v hw.lt j hj
    have h3 := hg.hi v hw.lt j hj
    have hw' : Way n W ((v, s) :: S) (g.to v j) (s + g.c v j) := .cons hw hv (hg.to v hw.lt j hj) (by omega) (by omega)
    have hp2 : m.2 * (g.c v j + g.pay k (g.to v j)) ≤ m.2 * g.pay (k + 1) v := Int.mul_le_mul_of_nonneg_left hp (by omega)
    rw [Int.mul_add] at hp2
    cases hf : findS (g.to v j) ((v, s) :: S) 0 with
    | none =>
      have ih := g.pay_ge hg hW hm hm1 hm2 k _ _ _ hw' (findS_none hf) (.cons hgd ha)
      rw [List.length_cons, Int.mul_add] at ih
      simp only [Int.natCast_add, Int.natCast_one, Int.add_mul, Int.one_mul] at ih ⊢
      omega
    | some x =>
      obtain ⟨i, s0⟩ := x
      obtain ⟨i', hi', hS⟩ := findS_some hf
      have : i = i' := by omega
      subst this
      obtain ⟨k1, k2, -, -⟩ := hw'.back hS
      have k3 := Good.back (.cons hgd ha) hS
      have ih := g.pay_ge hg hW hm hm1 hm2 k _ _ _ k1 k2 k3
      have hlt : i < S.length + 1 := by have := (List.getElem?_eq_some_iff.1 hS).1; simpa using this
      have hF : n + 1 - (S.length + 1) = (n - (S.length + 1)) + 1 := by omega
      rw [hF] at ha
      unfold Gm.first at ha
      rw [hf] at ha
      simp only at ha
      unfold atL at ha
      simp only at ha
      have hd : (((v, s) :: S).drop (i + 1)).length = S.length + 1 - (i + 1) := by rw [List.length_drop]; simp
      rw [hd] at ih
      have hc : ((S.length + 1 - (i + 1) : Nat) : Int) = (S.length : Int) - i := by omega
      rw [hc] at ih
      have e1 : m.1 * ((i : Int) + 1) = i * m.1 + m.1 := by rw [Int.mul_add, Int.mul_one, Int.mul_comm]
      have e2 : (s + g.c v j - s0) * m.2 = m.2 * s + m.2 * g.c v j - m.2 * s0 := by rw [Int.mul_comm, Int.mul_sub, Int.mul_add]
      rw [e1, e2] at ha
      simp only [Int.natCast_add, Int.natCast_one, Int.add_mul, Int.sub_mul, Int.one_mul] at ih ⊢
      omega

def Gm.val (g : Gm) (n : Nat) (v : Nat) : Int × Int := g.first (n + 1) [] v 0
theorem Gm.val_ok {g : Gm} {n : Nat} {W : Int} (hg : g.Ok n W) {v : Nat} (hv : v < n) : 1 ≤ (g.val n v).2 ∧ (g.val n v).2 ≤ n ∧ (g.val n v).1 ≤ (g.val n v).2 * W ∧ -((g.val n v).2 * W) ≤ (g.val n v).1 :=
  g.first_ok hg (n + 1) [] v 0 (.nil hv) (by simp) (by omega)
theorem Gm.val_ge {g : Gm} {n : Nat} {W : Int} (hg : g.Ok n W) (hW : 0 ≤ W) {v : Nat} (hv : v < n) (k : Nat) : k * (g.val n v).1 - 2 * (((n : Int) - 1) * ((g.val n v).2 * W)) ≤ (g.val n v).2 * g.pay k v := by
  have h := g.val_ok hg hv
  have := g.pay_ge hg hW (m := g.val n v) (by omega) h.2.2.1 h.2.2.2 k [] v 0 (.nil hv) (by simp) (.nil (Int.le_refl _))
  simpa using this
theorem Gm.val_dual (g : Gm) (n v : Nat) : g.dual.val n v = neg (g.val n v) := g.first_dual (n + 1) [] v 0
theorem Gm.val_le {g : Gm} {n : Nat} {W : Int} (hg : g.Ok n W) (hW : 0 ≤ W) {v : Nat} (hv : v < n) (k : Nat) : (g.val n v).2 * g.pay k v ≤ k * (g.val n v).1 + 2 * (((n : Int) - 1) * ((g.val n v).2 * W)) := by
  have h := Gm.val_ge hg.dual hW hv k
  rw [g.val_dual, g.pay_dual] at h
  unfold neg at h
  simp only [Int.mul_neg] at h
  omega
theorem frOf_eq {a b c e : Int} (hb : 1 ≤ b) (he : 1 ≤ e) (h : a * e = c * b) : frOf a b = frOf c e := by
  have hg : (Int.gcd a b : Int) * e = Int.gcd c e * b := by
    have h1 : Int.gcd (a * e) (b * e) = Int.gcd a b * e.natAbs := Int.gcd_mul_right ..
    have h2 : Int.gcd (c * b) (e * b) = Int.gcd c e * b.natAbs := Int.gcd_mul_right ..
    rw [h, Int.mul_comm b e, h2] at h1
    have h3 : (e.natAbs : Int) = e := Int.natAbs_of_nonneg (by omega)
    have h4 : (b.natAbs : Int) = b := Int.natAbs_of_nonneg (by omega)
    have h5 : ((Int.gcd c e * b.natAbs : Nat) : Int) = ((Int.gcd a b * e.natAbs : Nat) : Int) := by rw [h1]
    simp only [Int.natCast_mul, h3, h4] at h5
    exact h5.symm
  have hg0 : 0 < (Int.gcd a b : Int) := by
    have : Int.gcd a b ≠ 0 := fun h0 => by rw [Int.gcd_eq_zero_iff] at h0; omega
    omega
  have hh0 : 0 < (Int.gcd c e : Int) := by
    have : Int.gcd c e ≠ 0 := fun h0 => by rw [Int.gcd_eq_zero_iff] at h0; omega
    omega
  obtain ⟨a', ha⟩ := Int.gcd_dvd_left (a := a) (b := b)
  obtain ⟨b', hb'⟩ := Int.gcd_dvd_right (a := a) (b := b)
  obtain ⟨c', hc⟩ := Int.gcd_dvd_left (a := c) (b := e)
  obtain ⟨e', he'⟩ := Int.gcd_dvd_right (a := c) (b := e)
  unfold frOf
  generalize (Int.gcd a b : Int) = g at *
  generalize (Int.gcd c e : Int) = k at *
  subst ha hb' hc he'
  have e1 : e' = b' := by
    have : (g * k) * e' = (g * k) * b' := by rw [Int.mul_assoc, hg, Int.mul_comm g k, Int.mul_assoc]
    exact Int.eq_of_mul_eq_mul_left (Int.ne_of_gt (Int.mul_pos hg0 hh0)) this
  subst e1
  have hpos : 0 < e' := by
    rcases Int.lt_or_le 0 e' with h' | h'
    · exact h'
    · have : k * e' ≤ 0 := Int.mul_nonpos_of_nonneg_of_nonpos (by omega) h'
      omega
  have e2 : a' = c' := by
    have h1 : (g * k * e') * a' = (g * k * e') * c' := by
      have e3 : g * a' * (k * e') = (g * k * e') * a' := by ac_rfl
      have e4 : k * c' * (g * e') = (g * k * e') * c' := by ac_rfl
      rw [← e3, ← e4]; exact h
    exact Int.eq_of_mul_eq_mul_left (Int.ne_of_gt (Int.mul_pos (Int.mul_pos hg0 hh0) hpos)) h1
  subst e2
  rw [Int.mul_tdiv_cancel_left _ (by omega), Int.mul_tdiv_cancel_left _ (by omega), Int.mul_tdiv_cancel_left _ (by omega), Int.mul_tdiv_cancel_left _ (by omega)]
theorem near_same {x S n W p q p0 q0 e : Int} (hn : 1 ≤ n) (hW : 1 ≤ W) (hq : 1 ≤ q) (hqn : q ≤ n) (hq0 : 1 ≤ q0) (hq0n : q0 ≤ n) (he : 0 ≤ e) (hS : (e + 2 * ((n - 1) * W)) * (n * n) < S)
    (h1 : x * q - p * S ≤ e * q) (h2 : -(e * q) ≤ x * q - p * S) (h3 : q0 * x ≤ S * p0 + 2 * ((n - 1) * (q0 * W))) (h4 : S * p0 - 2 * ((n - 1) * (q0 * W)) ≤ q0 * x) : p * q0 = p0 * q := by
  have g1 : (x * q - p * S) * q0 ≤ (e * q) * q0 := Int.mul_le_mul_of_nonneg_right h1 (by omega)
  have g2 : -(e * q) * q0 ≤ (x * q - p * S) * q0 := Int.mul_le_mul_of_nonneg_right h2 (by omega)
  have g3 : (q0 * x) * q ≤ (S * p0 + 2 * ((n - 1) * (q0 * W))) * q := Int.mul_le_mul_of_nonneg_right h3 (by omega)
  have g4 : (S * p0 - 2 * ((n - 1) * (q0 * W))) * q ≤ (q0 * x) * q := Int.mul_le_mul_of_nonneg_right h4 (by omega)
  have a1 : (x * q - p * S) * q0 = (q0 * x) * q - S * (p * q0) := by rw [Int.sub_mul]; congr 1 <;> ac_rfl
  have a2 : (S * p0 + 2 * ((n - 1) * (q0 * W))) * q = S * (p0 * q) + 2 * ((n - 1) * W) * (q * q0) := by rw [Int.add_mul]; congr 1 <;> ac_rfl
  have a3 : (S * p0 - 2 * ((n - 1) * (q0 * W))) * q = S * (p0 * q) - 2 * ((n - 1) * W) * (q * q0) := by rw [Int.sub_mul]; congr 1 <;> ac_rfl
  have a4 : (e * q) * q0 = e * (q * q0) := by ac_rfl
  have a5 : -(e * q) * q0 = -(e * (q * q0)) := by rw [Int.neg_mul, a4]
  rw [a1, a4] at g1
  rw [a1, a5] at g2
  rw [a2] at g3
  rw [a3] at g4
  have b1 : q * q0 ≤ n * n := Int.mul_le_mul hqn hq0n (by omega) (by omega)
  have b0 : 0 ≤ 2 * ((n - 1) * W) := Int.mul_nonneg (by omega) (Int.mul_nonneg (by omega) (by omega))
  have b2 : (e + 2 * ((n - 1) * W)) * (q * q0) ≤ (e + 2 * ((n - 1) * W)) * (n * n) := Int.mul_le_mul_of_nonneg_left b1 (by omega)
  rw [Int.add_mul] at b2
  have c1 : S * (p * q0) - S * (p0 * q) < S := by omega
  have c2 : S * (p0 * q) - S * (p * q0) < S := by omega
  rw [← Int.mul_sub] at c1 c2
  have hSp : 0 < S := by
    have : 0 ≤ (e + 2 * ((n - 1) * W)) * (n * n) := Int.mul_nonneg (by omega) (Int.mul_nonneg (by omega) (by omega))
    omega
  have d1 : p * q0 - p0 * q < 1 := by
    rcases Int.lt_or_le (p * q0 - p0 * q) 1 with h | h
    · exact h
    · have := Int.mul_le_mul_of_nonneg_left h (c := S) (by omega)
      omega
  have d2 : p0 * q - p * q0 < 1 := by
    rcases Int.lt_or_le (p0 * q - p * q0) 1 with h | h
    · exact h
    · have := Int.mul_le_mul_of_nonneg_left h (c := S) (by omega)
      omega
  omega
theorem small {n W q : Int} (hn : 1 ≤ n) (hW : 1 ≤ W) (hq : 1 ≤ q) (hqn : q ≤ n) : 0 ≤ (n - 1) * (q * W) ∧ (n - 1) * (q * W) ≤ n * n * n * W - W ∧ 2 * ((n - 1) * W) * (n * n) = 2 * (n * n * n * W) - 2 * (n * n * W) ∧ W ≤ n * n * W ∧ (2 * n * W) * (n * n) = 2 * (n * n * n * W) ∧ n * n * W ≤ n * n * n * W := by
  have h0 : 0 ≤ (n - 1) * (q * W) := Int.mul_nonneg (by omega) (Int.mul_nonneg (by omega) (by omega))
  have h1 : q * W ≤ n * W := Int.mul_le_mul_of_nonneg_right hqn (by omega)
  have h2 : (n - 1) * (q * W) ≤ (n - 1) * (n * W) := Int.mul_le_mul_of_nonneg_left h1 (by omega)
  have e1 : (n - 1) * (n * W) = n * n * W - n * W := by rw [Int.sub_mul, Int.one_mul]; congr 1; ac_rfl
  have h3 : 1 * W ≤ n * W := Int.mul_le_mul_of_nonneg_right hn (by omega)
  have h4 : 1 * (n * W) ≤ n * (n * W) := Int.mul_le_mul_of_nonneg_right hn (by omega)
  have e4 : n * (n * W) = n * n * W := by ac_rfl
  have h5 : 1 * (n * n * W) ≤ n * (n * n * W) := Int.mul_le_mul_of_nonneg_right hn (Int.mul_nonneg (Int.mul_nonneg (by omega) (by omega)) (by omega))
  have e5 : n * (n * n * W) = n * n * n * W := by ac_rfl
  have e2 : 2 * ((n - 1) * W) * (n * n) = 2 * (n * n * n * W) - 2 * (n * n * W) := by
    rw [Int.sub_mul, Int.one_mul, Int.mul_sub, Int.sub_mul]; congr 1 <;> ac_rfl
  have e3 : (2 * n * W) * (n * n) = 2 * (n * n * n * W) := by ac_rfl
  omega

theorem accept_same {x n W p q p0 q0 : Int} (hn : 1 ≤ n) (hW : 1 ≤ W) (hq : 1 ≤ q) (hqn : q ≤ n) (hq0 : 1 ≤ q0) (hq0n : q0 ≤ n)
    (h1 : x * q - p * (4 * (n * n * n * W) + 1) ≤ (2 * n * W) * q) (h2 : -((2 * n * W) * q) ≤ x * q - p * (4 * (n * n * n * W) + 1))
    (h3 : q0 * x ≤ (4 * (n * n * n * W) + 1) * p0 + 2 * ((n - 1) * (q0 * W))) (h4 : (4 * (n * n * n * W) + 1) * p0 - 2 * ((n - 1) * (q0 * W)) ≤ q0 * x) : frOf p q = frOf p0 q0 := by
  have hs := small hn hW hq0 hq0n
  refine frOf_eq hq hq0 (near_same hn hW hq hqn hq0 hq0n (Int.mul_nonneg (Int.mul_nonneg (by omega) (by omega)) (by omega)) ?_ h1 h2 h3 h4)
  rw [Int.add_mul]
  omega
theorem accept_mean {x n W p0 q0 : Int} (hn : 1 ≤ n) (hW : 1 ≤ W) (hq0 : 1 ≤ q0) (hq0n : q0 ≤ n)
    (h3 : q0 * x ≤ (4 * (n * n * n * W) + 1) * p0 + 2 * ((n - 1) * (q0 * W))) (h4 : (4 * (n * n * n * W) + 1) * p0 - 2 * ((n - 1) * (q0 * W)) ≤ q0 * x) :
    (x * q0 - p0 * (4 * (n * n * n * W) + 1) ≤ (2 * n * W) * q0 ∧ -((2 * n * W) * q0) ≤ x * q0 - p0 * (4 * (n * n * n * W) + 1)) ∧ (x * q0).tdiv (4 * (n * n * n * W) + 1) - 1 ≤ p0 ∧ p0 ≤ (x * q0).tdiv (4 * (n * n * n * W) + 1) + 1 := by
  have hs := small hn hW hq0 hq0n
  have e1 : (2 * n * W) * q0 = 2 * ((n - 1) * (q0 * W)) + 2 * (q0 * W) := by
    rw [Int.sub_mul, Int.mul_sub, Int.one_mul]
    have : 2 * n * W * q0 = 2 * (n * (q0 * W)) := by ac_rfl
    omega
  have e0 : 0 ≤ q0 * W := Int.mul_nonneg (by omega) (by omega)
  rw [Int.mul_comm x q0, Int.mul_comm p0]
  refine ⟨⟨by omega, by omega⟩, ?_⟩
  generalize hS : 4 * (n * n * n * W) + 1 = S at *
  generalize q0 * x = y at *
  have hSp : 0 < S := by omega
  -- |y - S * p0| < S
  have b1 : y - S * p0 < S := by omega
  have b2 : S * p0 - y < S := by omega
  have t1 := Int.mul_tdiv_add_tmod y S
  have t2 : (y.tmod S).natAbs < S.natAbs := by
    rw [Int.natAbs_tmod]
    exact Nat.mod_lt _ (by omega)
  generalize y.tdiv S = t at *
  generalize y.tmod S = r at *
  have c1 : S * t - S * p0 < 2 * S := by omega
  have c2 : S * p0 - S * t < 2 * S := by omega
  rw [← Int.mul_sub] at c1 c2
  constructor
  · rcases Int.lt_or_le (t - p0) 2 with h | h
    · omega
    · have := Int.mul_le_mul_of_nonneg_left h (c := S) (by omega)
      omega
  · rcases Int.lt_or_le (p0 - t) 2 with h | h
    · omega
    · have := Int.mul_le_mul_of_nonneg_left h (c := S) (by omega)
      omega
end Go.Proofs.Ytdbecmmeifdafaa.MV

namespace Go.Proofs.Ytdbecmmeifdafaa
open Go.RowKit
set_option linter.unusedVariables false
set_option linter.unusedSimpArgs false

end Go.Proofs.Ytdbecmmeifdafaa

namespace Go.Proofs.Ytdbecmmeifdafaa
open Go.RowKit
set_option linter.unusedVariables false
set_option linter.unusedSimpArgs false

@[reducible] def dFrs (fs : List Fr) : List D := fs.flatMap dFr
theorem m2d (n : Nat) : n * 2 / 2 = n := by omega
theorem len_dFrs (fs : List Fr) : (dFrs fs).length = fs.length * 2 := by
  induction fs with
  | nil => rfl
  | cons x fs ih => simp only [dFrs, List.flatMap_cons, List.length_append, List.length_cons] at *; rw [ih]; simp only [dFr, List.length_cons, List.length_nil]; omega
theorem app_dFrs (fs : List Fr) (x y : Int) : dFrs fs ++ [D.int .i64 x, D.int .i64 y] = dFrs (fs ++ [⟨x, y⟩]) := by simp [dFrs, dFr]
theorem take_dFrs (fs : List Fr) (n : Nat) : (dFrs fs).take (n * 2) = dFrs (fs.take n) := by
  induction fs generalizing n with
  | nil => simp [dFrs]
  | cons x fs ih =>
    cases n with
    | zero => simp [dFrs]
    | succ n =>
      have := ih n
      simp only [dFrs, List.flatMap_cons, List.take_succ_cons] at *
      rw [show (n + 1) * 2 = n * 2 + 1 + 1 from by omega]
      simp only [dFr, List.cons_append, List.nil_append, List.take_succ_cons]
      rw [this]
attribute [push_cast] m2d len_dFrs app_dFrs take_dFrs
def gf (fs : List Fr) (k : Nat) : Fr := fs.getD k ⟨0, 0⟩
theorem dFrs_at0 (fs : List Fr) (k : Nat) : (dFrs fs)[k * 2]? = if k < fs.length then some (.int .i64 (gf fs k).num) else none := by
  induction fs generalizing k with
  | nil => rfl
  | cons x fs ih =>
    cases k with
    | zero => rfl
    | succ k =>
      rw [show (k + 1) * 2 = k * 2 + 1 + 1 from by omega]
      simp only [dFrs, List.flatMap_cons, dFr, List.cons_append, List.nil_append, List.getElem?_cons_succ, List.length_cons]
      have := ih k
      simp only [dFrs] at this
      rw [this]
      simp only [gf, List.getD_cons_succ]
      split <;> split <;> first | rfl | omega
theorem dFrs_at1 (fs : List Fr) (k : Nat) : (dFrs fs)[k * 2 + 1]? = if k < fs.length then some (.int .i64 (gf fs k).den) else none := by
  induction fs generalizing k with
  | nil => rfl
  | cons x fs ih =>
    cases k with
    | zero => rfl
    | succ k =>
      rw [show (k + 1) * 2 + 1 = k * 2 + 1 + 1 + 1 from by omega]
      simp only [dFrs, List.flatMap_cons, dFr, List.cons_append, List.nil_append, List.getElem?_cons_succ, List.length_cons]
      have := ih k
      simp only [dFrs] at this
      rw [this]
      simp only [gf, List.getD_cons_succ]
      split <;> split <;> first | rfl | omega
theorem getI_dFrs0 (fs : List Fr) (k : Nat) : getI (dFrs fs) (k * 2) = (gf fs k).num := by
  unfold getI
  rw [dFrs_at0]
  split
  · rename_i h; split at h <;> cases h; rfl
  · rename_i h
    split at h
    · rename_i h2; exact absurd rfl (h _ _)
    · rename_i h2; unfold gf; rw [List.getD_eq_getElem?_getD, List.getElem?_eq_none (by omega)]; rfl
theorem getI_dFrs1 (fs : List Fr) (k : Nat) : getI (dFrs fs) (k * 2 + 1) = (gf fs k).den := by
  unfold getI
  rw [dFrs_at1]
  split
  · rename_i h; split at h <;> cases h; rfl
  · rename_i h
    split at h
    · rename_i h2; exact absurd rfl (h _ _)
    · rename_i h2; unfold gf; rw [List.getD_eq_getElem?_getD, List.getElem?_eq_none (by omega)]; rfl
theorem HasC_dFrs0 (fs : List Fr) (k : Nat) : HasC (.int .i64) (dFrs fs) (k * 2) = (k < fs.length) := by
  unfold HasC
  rw [dFrs_at0]
  apply propext
  constructor
  · rintro ⟨n, h⟩; split at h; assumption; cases h
  · intro h; rw [if_pos h]; exact ⟨_, rfl⟩
theorem HasC_dFrs1 (fs : List Fr) (k : Nat) : HasC (.int .i64) (dFrs fs) (k * 2 + 1) = (k < fs.length) := by
  unfold HasC
  rw [dFrs_at1]
  apply propext
  constructor
  · rintro ⟨n, h⟩; split at h; assumption; cases h
  · intro h; rw [if_pos h]; exact ⟨_, rfl⟩
attribute [push_cast] getI_dFrs0 getI_dFrs1 HasC_dFrs0 HasC_dFrs1
theorem set_dFrs0 (fs : List Fr) (k : Nat) (n : Int) : (dFrs fs).set (k * 2) (.int .i64 n) = dFrs (fs.set k ⟨n, (gf fs k).den⟩) := by
  induction fs generalizing k with
  | nil => simp [dFrs]
  | cons x fs ih =>
    cases k with
    | zero => simp [dFrs, dFr, gf]
    | succ k =>
      have := ih k
      rw [show (k + 1) * 2 = k * 2 + 1 + 1 from by omega]
      simp only [dFrs, List.flatMap_cons, dFr, List.cons_append, List.nil_append, List.set_cons_succ] at *
      rw [this]
      simp only [gf, List.getD_cons_succ]
theorem set_dFrs1 (fs : List Fr) (k : Nat) (n : Int) : (dFrs fs).set (k * 2 + 1) (.int .i64 n) = dFrs (fs.set k ⟨(gf fs k).num, n⟩) := by
  induction fs generalizing k with
  | nil => simp [dFrs]
  | cons x fs ih =>
    cases k with
    | zero => simp [dFrs, dFr, gf]
    | succ k =>
      have := ih k
      rw [show (k + 1) * 2 + 1 = k * 2 + 1 + 1 + 1 from by omega]
      simp only [dFrs, List.flatMap_cons, dFr, List.cons_append, List.nil_append, List.set_cons_succ] at *
      rw [this]
      simp only [gf, List.getD_cons_succ]
attribute [push_cast] set_dFrs0 set_dFrs1
theorem gf_lt {fs : List Fr} {k : Nat} (h : k < fs.length) : fs[k]? = some (gf fs k) := by
  unfold gf
  rw [List.getD_eq_getElem?_getD, List.getElem?_eq_getElem h]
  rfl
end Go.Proofs.Ytdbecmmeifdafaa

namespace Go.Proofs.Ytdbecmmeifdafaa
open Nat renaming reduceMod → zA, reduceMul → zB, reduceDiv → zC, reduceAdd → zD, reduceSub → zE, reduceEqDiff → zF, reduceBEq → zG, reduceLT → zH, reduceLeDiff → zI
open Go.RowKit
set_option linter.unusedVariables false
set_option linter.unusedSimpArgs false

open MV (Gm)
def maxI : Int → List Int → Int
  | m, [] => m
  | m, c :: r => maxI (if c > m then c else m) r
def mostI : Int → List Int → Int
  | m, [] => m
  | m, c :: r => mostI (if (c.natAbs : Int) > m then (c.natAbs : Int) else m) r
def mostR : Int → List (List Int) → Int
  | m, [] => m
  | m, r :: rs => mostR (mostI m r) rs
theorem maxI_app (m : Int) (a b : List Int) : maxI m (a ++ b) = maxI (maxI m a) b := by
  induction a generalizing m with
  | nil => rfl
  | cons x a ih => exact ih _
theorem mostR_app (m : Int) (a b : List (List Int)) : mostR m (a ++ b) = mostR (mostR m a) b := by
  induction a generalizing m with
  | nil => rfl
  | cons x a ih => exact ih _
theorem maxI_take {m : Int} {r : List Int} {k : Nat} (h : k < r.length) : maxI m (r.take (k + 1)) = if gi r k > maxI m (r.take k) then gi r k else maxI m (r.take k) := by
  rw [List.take_add_one, gi_lt h, maxI_app]
  rfl
theorem mostR_take {m : Int} {rs : List (List Int)} {k : Nat} (h : k < rs.length) : mostR m (rs.take (k + 1)) = mostI (mostR m (rs.take k)) (gl rs k) := by
  rw [List.take_add_one, gl_lt h, mostR_app]
  rfl
theorem maxI_iff {B : Int} : ∀ {r : List Int} {m : Int}, maxI m r ≤ B ↔ m ≤ B ∧ ∀ x ∈ r, x ≤ B
  | [], m => by simp [maxI]
  | c :: r, m => by
    unfold maxI
    rw [maxI_iff (r := r)]
    simp only [List.mem_cons, forall_eq_or_imp]
    split <;> constructor <;> intro h <;> refine ⟨by omega, ?_⟩ <;> first | exact ⟨by omega, h.2⟩ | exact h.2.2
theorem worstI_iff {B : Int} : ∀ {r : List Int} {m : Int}, worstI m r ≤ B ↔ m ≤ B ∧ ∀ x ∈ r, -x ≤ B
  | [], m => by simp [worstI]
  | c :: r, m => by
    unfold worstI
    rw [worstI_iff (r := r)]
    simp only [List.mem_cons, forall_eq_or_imp]
    split <;> constructor <;> intro h <;> refine ⟨by omega, ?_⟩ <;> first | exact ⟨by omega, h.2⟩ | exact h.2.2
theorem mostI_iff {B : Int} : ∀ {r : List Int} {m : Int}, mostI m r ≤ B ↔ m ≤ B ∧ ∀ x ∈ r, (x.natAbs : Int) ≤ B
  | [], m => by simp [mostI]
  | c :: r, m => by
    unfold mostI
    rw [mostI_iff (r := r)]
    simp only [List.mem_cons, forall_eq_or_imp]
    split <;> constructor <;> intro h <;> refine ⟨by omega, ?_⟩ <;> first | exact ⟨by omega, h.2⟩ | exact h.2.2
theorem mostR_iff {B : Int} : ∀ {rs : List (List Int)} {m : Int}, mostR m rs ≤ B ↔ m ≤ B ∧ ∀ r ∈ rs, ∀ x ∈ r, (x.natAbs : Int) ≤ B
  | [], m => by simp [mostR]
  | c :: r, m => by
    unfold mostR
    rw [mostR_iff (rs := r), mostI_iff]
    simp only [List.mem_cons, forall_eq_or_imp]
    constructor
    · rintro ⟨⟨h1, h2⟩, h3⟩; exact ⟨h1, h2, h3⟩
    · rintro ⟨h1, h2, h3⟩; exact ⟨⟨h1, h2⟩, h3⟩
theorem eq_of_iff {a b : Int} (h : ∀ B, a ≤ B ↔ b ≤ B) : a = b := by
  have h1 := (h b).2 (Int.le_refl _)
  have h2 := (h a).1 (Int.le_refl _)
  omega
theorem most3 {m : Int} {r : List Int} (h : 1 ≤ r.length) : (if worstI (-gi r 0) r > (if maxI (gi r 0) r > m then maxI (gi r 0) r else m) then worstI (-gi r 0) r else (if maxI (gi r 0) r > m then maxI (gi r 0) r else m)) = mostI m r := by
  refine eq_of_iff fun B => ?_
  have h1 := maxI_iff (B := B) (r := r) (m := gi r 0)
  have h2 := worstI_iff (B := B) (r := r) (m := -gi r 0)
  have h3 := mostI_iff (B := B) (r := r) (m := m)
  have h0 : gi r 0 ∈ r := List.mem_of_getElem? (gi_lt h)
  rw [h3]
  have key : (maxI (gi r 0) r ≤ B ∧ worstI (-gi r 0) r ≤ B) ↔ ∀ x ∈ r, (x.natAbs : Int) ≤ B := by
    rw [h1, h2]
    constructor
    · rintro ⟨⟨_, a⟩, _, b⟩ x hx
      have := a x hx; have := b x hx; omega
    · intro a
      have b1 : ∀ x ∈ r, x ≤ B := fun x hx => by have := a x hx; omega
      have b2 : ∀ x ∈ r, -x ≤ B := fun x hx => by have := a x hx; omega
      exact ⟨⟨b1 _ h0, b1⟩, b2 _ h0, b2⟩
  rw [← key]
  omega
def mostW (w : Wt) : Int := mostR 1 w.cost
def gmW (w : Wt) : Gm := ⟨fun v => decide (gi w.a.owner v = 0), fun v => (gl w.a.next v).length, fun v j => (gi (gl w.a.next v) j).toNat, fun v j => gi (gl w.cost v) j⟩
structure WMn (w : Wt) : Prop where
  sh : WSh w
  n8 : w.a.owner.length ≤ 8
  c1 : ∀ v, v < w.a.owner.length → ∀ j, j < (gl w.a.next v).length → -1000 ≤ gi (gl w.cost v) j ∧ gi (gl w.cost v) j ≤ 1000
theorem WMn.most {w : Wt} (h : WMn w) (k : Nat) : 1 ≤ mostR 1 (w.cost.take k) ∧ mostR 1 (w.cost.take k) ≤ 1000 := by
  constructor
  · exact (mostR_iff.1 (Int.le_refl (mostR 1 (w.cost.take k)))).1
  · refine mostR_iff.2 ⟨by omega, fun r hr x hx => ?_⟩
    obtain ⟨v, hv, rfl⟩ := mem_gl (List.mem_of_mem_take hr)
    obtain ⟨j, hj, rfl⟩ := mem_gi hx
    have hv' : v < w.a.owner.length := by have := h.sh.cl; omega
    have := h.c1 v hv' j (by have := (h.sh.row v hv').1; omega)
    omega
theorem WMn.mW {w : Wt} (h : WMn w) : 1 ≤ mostW w ∧ mostW w ≤ 1000 := by
  have := h.most w.cost.length
  rwa [List.take_length] at this
theorem WMn.game {w : Wt} (h : WMn w) : (gmW w).Ok w.a.owner.length (mostW w) := by
  have key : ∀ v, v < w.a.owner.length → ∀ j, j < (gl w.a.next v).length → ((gi (gl w.cost v) j).natAbs : Int) ≤ mostW w := fun v hv j hj => by
    refine (mostR_iff.1 (Int.le_refl (mostR 1 w.cost))).2 (gl w.cost v) (List.mem_of_getElem? (gl_lt (by have := h.sh.cl; omega))) _ (List.mem_of_getElem? (gi_lt (by have := (h.sh.row v hv).1; omega)))
  refine ⟨fun v hv => (h.sh.row v hv).2.1, fun v hv j hj => ?_, fun v hv j hj => ?_, fun v hv j hj => ?_⟩
  · have := h.sh.to v hv j hj
    show (gi (gl w.a.next v) j).toNat < _
    omega
  · have := key v hv j hj
    show -mostW w ≤ gi (gl w.cost v) j
    omega
  · have := key v hv j hj
    show gi (gl w.cost v) j ≤ mostW w
    omega
theorem optB_bd {mx : Bool} {f : Nat → Int} {X : Int} : ∀ {k : Nat}, 1 ≤ k → (∀ j, j < k → -X ≤ f j ∧ f j ≤ X) → -X ≤ MV.optB mx f k ∧ MV.optB mx f k ≤ X := fun {k} hk h => by
  obtain ⟨j, hj, he⟩ := MV.optB_ex mx f k hk
  rw [he]
  exact h j hj
theorem WMn.pay {w : Wt} (h : WMn w) : ∀ (k v : Nat), v < w.a.owner.length → -(k * mostW w) ≤ (gmW w).pay k v ∧ (gmW w).pay k v ≤ k * mostW w
  | 0, v, hv => by show -((0 : Nat) * mostW w) ≤ 0 ∧ (0 : Int) ≤ (0 : Nat) * mostW w; simp
  | k + 1, v, hv => by
    have hg := h.game
    refine optB_bd (hg.deg v hv) fun j hj => ?_
    have h1 := hg.lo v hv j hj
    have h2 := hg.hi v hv j hj
    have h3 := h.pay k _ (hg.to v hv j hj)
    simp only [Int.natCast_add, Int.natCast_one, Int.add_mul, Int.one_mul]
    omega
theorem WMn.payB {w : Wt} (h : WMn w) {k v : Nat} (hv : v < w.a.owner.length) (hk : k ≤ 2048001) : -2048001000 ≤ (gmW w).pay k v ∧ (gmW w).pay k v ≤ 2048001000 := by
  have h1 := h.pay k v hv
  have h2 := h.mW
  have h3 : (k : Int) * mostW w ≤ 2048001 * 1000 := Int.mul_le_mul (by omega) h2.2 (by omega) (by omega)
  omega
def payL (w : Wt) (k : Nat) : List Int := (List.range w.a.owner.length).map ((gmW w).pay k)
theorem payL_len (w : Wt) (k : Nat) : (payL w k).length = w.a.owner.length := by simp [payL]
theorem payL_gi {w : Wt} {k v : Nat} (h : v < w.a.owner.length) : gi (payL w k) v = (gmW w).pay k v := by
  unfold gi payL
  rw [List.getD_eq_getElem?_getD, List.getElem?_map, List.getElem?_range h]
  rfl
theorem payL_0 (w : Wt) : payL w 0 = List.replicate w.a.owner.length 0 := by
  refine List.ext_getElem? fun i => ?_
  unfold payL
  rw [List.getElem?_map, List.getElem?_replicate]
  split
  · rename_i h; rw [List.getElem?_range h]; rfl
  · rename_i h; rw [List.getElem?_eq_none (by simp; omega)]; rfl
theorem gi_ext3 {a b : List Int} (hl : a.length = b.length) (h : ∀ v, v < a.length → gi a v = gi b v) : a = b := by
  refine List.ext_getElem? fun i => ?_
  by_cases hi : i < a.length
  · rw [gi_lt hi, gi_lt (by omega), h i hi]
  · rw [List.getElem?_eq_none (by omega), List.getElem?_eq_none (by omega)]
theorem payL_ext {w : Wt} {k : Nat} {z : List Int} (hl : z.length = w.a.owner.length) (h : ∀ u, u < w.a.owner.length → gi z u = (gmW w).pay k u) : z = payL w k :=
  gi_ext3 (by rw [payL_len, hl]) fun v hv => by rw [h v (by omega), payL_gi (by omega)]
def edgeV (w : Wt) (k v j : Nat) : Int := gi (gl w.cost v) j + (gmW w).pay k (gi (gl w.a.next v) j).toNat
theorem pay_s (w : Wt) (k v : Nat) : (gmW w).pay (k + 1) v = MV.optB (decide (gi w.a.owner v = 0)) (edgeV w k v) (gl w.a.next v).length := rfl
theorem edge_bd {w : Wt} (h : WMn w) {k v j : Nat} (hv : v < w.a.owner.length) (hj : j < (gl w.a.next v).length) (hk : k ≤ 2048001) : -2048002000 ≤ edgeV w k v j ∧ edgeV w k v j ≤ 2048002000 := by
  have h1 := h.payB (h.game.to v hv j hj) hk
  have h2 := h.c1 v hv j hj
  unfold edgeV
  show -2048002000 ≤ gi (gl w.cost v) j + (gmW w).pay k ((gmW w).to v j) ∧ gi (gl w.cost v) j + (gmW w).pay k ((gmW w).to v j) ≤ 2048002000
  omega
def valF (w : Wt) (v : Nat) : Fr := frOf ((gmW w).val w.a.owner.length v).1 ((gmW w).val w.a.owner.length v).2
def meansL (w : Wt) : List Fr := (List.range w.a.owner.length).map (valF w)
theorem meansL_len (w : Wt) : (meansL w).length = w.a.owner.length := by simp [meansL]
def meansT (w : Wt) (k : Nat) : List Fr := (List.range k).map (valF w)
theorem meansT_len (w : Wt) (k : Nat) : (meansT w k).length = k := by simp [meansT]
theorem meansT_s (w : Wt) (k : Nat) : meansT w (k + 1) = meansT w k ++ [valF w k] := by simp [meansT, List.range_succ]
theorem mul_bd {x q X Q : Int} (h : -X ≤ x ∧ x ≤ X) (hq : -Q ≤ q ∧ q ≤ Q) (hX : 0 ≤ X) (hQ : 0 ≤ Q) : -(X * Q) ≤ x * q ∧ x * q ≤ X * Q := by
  have h1 : (x * q).natAbs ≤ X.natAbs * Q.natAbs := by
    rw [Int.natAbs_mul]
    exact Nat.mul_le_mul (by omega) (by omega)
  have h2 : ((X.natAbs * Q.natAbs : Nat) : Int) = X * Q := by
    rw [Int.natCast_mul]
    congr 1 <;> omega
  omega
set_option maxRecDepth 20000 in
set_option maxHeartbeats 4000000 in
theorem MaxM_fn (r : List Int) (h : 1 ≤ r.length) (h2 : r.length ≤ 1048576) : Fn Try.prog tyT 119 [.c (DI r)] [.c (.int .i64 (maxI (gi r 0) r))] := by
  refine Fn_of (fn := Try.f119) (ts := [2]) Try.func119 (by kernel_rfl) rfl rfl (by rw [Try.ntmps119]; exact Nat.le_of_ble_eq_true rfl) rfl (by simp only [szA, List.mem_cons, List.not_mem_nil, or_false, forall_eq_or_imp, forall_eq, VT.cells, szL]; try decide) ?_
  rw [Try.ntmps119]
  simp only [push_cast, ↓brB_true, ↓brB_false, ↓reduceIte, zA, zB, zC, zD, zE, zF, zG, zH, zI, reduceCtorEq]
  refine awp_seq' fun K hK => ?_
  refine awp_region tyOk tyPos [] rfl ?_
  simp only [push_cast, ↓brB_true, ↓brB_false, ↓reduceIte, zA, zB, zC, zD, zE, zF, zG, zH, zI, reduceCtorEq]
  repeat' apply And.intro
  all_goals try exact gB
  all_goals first | (refine hK _ ?_; clear hK K) | (simp only [push_cast]; done)
  refine awp_seq' fun K1 hK1 => ?_
  refine awp_seq' fun K hK => ?_
  refine awp_region tyOk tyPos [] rfl ?_
  simp only [push_cast, ↓brB_true, ↓brB_false, ↓reduceIte, zA, zB, zC, zD, zE, zF, zG, zH, zI, reduceCtorEq]
  repeat' apply And.intro
  all_goals try exact gB
  all_goals first | (refine hK _ ?_; clear hK K) | (simp only [push_cast]; done)
  refine awp_cond rfl (fun hc => ?_) (fun hc => ?_)
  skip
  · exfalso; first | (cases hc; done) | (simp only [push_cast] at hc; done) | (simp only [push_cast] at hc; omega) | omega
  refine awp_skip ?_
  (try simp only [AThen, ABlk, reduceIte, zF]); refine hK1 _ ?_
  refine awp_seq' fun K hK => ?_
  refine awp_region tyOk tyPos [] rfl ?_
  simp only [push_cast, ↓brB_true, ↓brB_false, ↓reduceIte, zA, zB, zC, zD, zE, zF, zG, zH, zI, reduceCtorEq]
  repeat' apply And.intro
  all_goals try exact gB
  all_goals first | (refine hK _ ?_; clear hK K) | (simp only [push_cast]; done)
  refine awp_seq' fun K2 hK2 => ?_
  refine awp_seq' fun K hK => ?_
  refine awp_region tyOk tyPos [] rfl ?_
  simp only [push_cast, ↓brB_true, ↓brB_false, ↓reduceIte, zA, zB, zC, zD, zE, zF, zG, zH, zI, reduceCtorEq]
  repeat' apply And.intro
  all_goals try exact gB
  all_goals first | (refine hK _ ?_; clear hK K) | (simp only [push_cast]; done)
  refine awp_block ?_
  refine awp_loopU [3,4,12,13,14,15,16,17,18,19,20,21,22,23] [] (fun (k : Nat) => [(4, .int .i64 k), (3, .int .i64 (maxI (gi r 0) (r.take k)))]) (fun k => []) (fun k => []) (fun k => 1 ≤ k ∧ k ≤ r.length) (fun k => r.length - k) 1 ?_ (by omega) ?_
  ·
    rw [maxI_take (by omega), List.take_zero, show maxI (gi r 0) [] = gi r 0 from rfl, if_neg (by omega)]
    refine cov_of rfl ?_ ?_ ?_ <;> simp only [covS, covL, push_cast, ↓brB_true, ↓brB_false, ↓reduceIte, zA, zB, zC, zD, zE, zF, zG, zH, zI, reduceCtorEq]
  · rintro k ⟨hk1, hk⟩ KL0 hL0
    simp only [push_cast, ↓brB_true, ↓brB_false, ↓reduceIte, zA, zB, zC, zD, zE, zF, zG, zH, zI, reduceCtorEq]
    refine awp_seq' fun K3 hK3 => ?_
    refine awp_seq' fun K hK => ?_
    refine awp_region tyOk tyPos [] rfl ?_
    simp only [push_cast, ↓brB_true, ↓brB_false, ↓reduceIte, zA, zB, zC, zD, zE, zF, zG, zH, zI, reduceCtorEq]
    repeat' apply And.intro
    all_goals try exact gB
    all_goals first | (refine hK _ ?_; clear hK K) | (simp only [push_cast]; done)
    refine awp_cond rfl (fun hc => ?_) (fun hc => ?_) <;> (try simp only [push_cast] at hc)
    ·
      refine awp_skip ?_
      (try simp only [AThen, ABlk, reduceIte, zF]); refine hK3 _ ?_
      refine awp_seq' fun K4 hK4 => ?_
      refine awp_block ?_
      refine awp_region tyOk tyPos [] rfl ?_
      simp only [push_cast, ↓brB_true, ↓brB_false, ↓reduceIte, zA, zB, zC, zD, zE, zF, zG, zH, zI, reduceCtorEq]
      repeat' apply And.intro
      all_goals try exact gB
      (try simp only [AThen, ABlk, reduceIte, zF]); refine hK4 _ ?_
      refine awp_region tyOk tyPos [] rfl ?_
      simp only [push_cast, ↓brB_true, ↓brB_false, ↓reduceIte, zA, zB, zC, zD, zE, zF, zG, zH, zI, reduceCtorEq]
      repeat' apply And.intro
      all_goals try exact gB
      refine hL0 _ ⟨k + 1, by omega, by omega, ?_⟩
      rw [maxI_take (by omega)]
      refine cov_of rfl ?_ ?_ ?_ <;> simp only [covS, covL, push_cast, ↓brB_true, ↓brB_false, ↓reduceIte, zA, zB, zC, zD, zE, zF, zG, zH, zI, reduceCtorEq]
    ·
      refine awp_exit ?_
      (try simp only [AThen, ABlk, reduceIte, zF]); refine hK2 _ ?_
      refine awp_seq' fun K hK => ?_
      refine awp_region tyOk tyPos [] rfl ?_
      simp only [push_cast, ↓brB_true, ↓brB_false, ↓reduceIte, zA, zB, zC, zD, zE, zF, zG, zH, zI, reduceCtorEq]
      repeat' apply And.intro
      all_goals try exact gB
      all_goals first | (refine hK _ ?_; clear hK K) | (simp only [push_cast]; done)
      refine awp_ret ?_
      (try simp only [AThen, ABlk])
      refine ⟨Or.inl rfl, ?_⟩
      simp only [RetOk, push_cast, ↓brB_true, ↓brB_false, ↓reduceIte, zA, zB, zC, zD, zE, zF, zG, zH, zI, reduceCtorEq]
      rw [show k = r.length from by omega, List.take_length]
structure NearM (x S n W p q : Int) : Prop where
  n1 : 1 ≤ n
  n8 : n ≤ 8
  w1 : 1 ≤ W
  w2 : W ≤ 1000
  q1 : 1 ≤ q
  q2 : q ≤ n
  up : q * x ≤ S * p + 2 * ((n - 1) * (q * W))
  lo : S * p - 2 * ((n - 1) * (q * W)) ≤ q * x
theorem nW_bd {n W : Int} (n1 : 1 ≤ n) (n8 : n ≤ 8) (w1 : 1 ≤ W) (w2 : W ≤ 1000) : (1 ≤ n * n ∧ n * n ≤ 64) ∧ (1 ≤ n * n * n ∧ n * n * n ≤ 512) ∧ (1 ≤ n * n * n * W ∧ n * n * n * W ≤ 512000) ∧ (1 ≤ n * W ∧ n * W ≤ 8000) := by
  have a1 : n * n ≤ 8 * 8 := Int.mul_le_mul n8 n8 (by omega) (by omega)
  have b1 : 1 * 1 ≤ n * n := Int.mul_le_mul n1 n1 (by omega) (by omega)
  have a2 : n * n * n ≤ 64 * 8 := Int.mul_le_mul (by omega) n8 (by omega) (by omega)
  have b2 : 1 * 1 ≤ n * n * n := Int.mul_le_mul (by omega) n1 (by omega) (by omega)
  have a3 : n * n * n * W ≤ 512 * 1000 := Int.mul_le_mul (by omega) w2 (by omega) (by omega)
  have b3 : 1 * 1 ≤ n * n * n * W := Int.mul_le_mul (by omega) w1 (by omega) (by omega)
  have a4 : n * W ≤ 8 * 1000 := Int.mul_le_mul n8 w2 (by omega) (by omega)
  have b4 : 1 * 1 ≤ n * W := Int.mul_le_mul n1 w1 (by omega) (by omega)
  omega
theorem nf_accept {x S n W p q : Int} (h : NearM x S n W p q) (hS : S = 4 * (n * n * n * W) + 1) {d k : Int} (hk : 1 ≤ k) (hk2 : k ≤ n) (h1 : x * k - d * S ≤ 2 * n * W * k) (h2 : -(x * k - d * S) ≤ 2 * n * W * k) : frOf d k = frOf p q := by
  subst hS
  exact MV.accept_same h.n1 h.w1 hk hk2 h.q1 h.q2 h1 (by omega) h.up h.lo
theorem nf_mean {x S n W p q : Int} (h : NearM x S n W p q) (hS : S = 4 * (n * n * n * W) + 1) : (x * q - p * S ≤ 2 * n * W * q ∧ -(x * q - p * S) ≤ 2 * n * W * q) ∧ (x * q).tdiv S - 1 ≤ p ∧ p ≤ (x * q).tdiv S + 1 := by
  subst hS
  have := MV.accept_mean h.n1 h.w1 h.q1 h.q2 h.up h.lo
  refine ⟨⟨this.1.1, by have := this.1.2; omega⟩, this.2⟩
def rndN (x S q : Int) : Int := (2 * x * q + S) / (2 * S)
def dstN' (x S q : Int) : Int := ((x * q - rndN x S q * S).natAbs : Int)
set_option maxRecDepth 20000 in
set_option maxHeartbeats 4000000 in
theorem nearestFrac_fn (x S n e W p0 q0 : Int) (hN : NearM x S n W p0 q0) (hx : -3000000000 ≤ x ∧ x ≤ 3000000000) (hS : S = 4 * (n * n * n * W) + 1) (he : e = 2 * n * W) : Fn Try.prog tyT 120 [.c (.int .i64 x), .c (.int .i64 S), .c (.int .i64 n), .c (.int .i64 e)] [.agg (dFr (frOf p0 q0))] := by
  have hb := nW_bd hN.n1 hN.n8 hN.w1 hN.w2
  have hn1 := hN.n1
  have hn8 := hN.n8
  have hq1 := hN.q1
  have hq2 := hN.q2
  have hS2 : 1 ≤ S ∧ S ≤ 2048001 := by omega
  have he2 : 0 ≤ e ∧ e ≤ 16000 := by rw [he, Int.mul_assoc]; omega
  have hm := nf_mean hN hS
  have hac := fun d k hk hk2 => nf_accept hN hS (d := d) (k := k) hk hk2
  rw [← he] at hm hac
  have hF := fracOf_fn
  unfold dFr at hF ⊢
  refine Fn_ofR (fn := Try.f120) (rs := [.cell 8 50]) tyOk tyPos Try.func120 (by kernel_rfl) rfl rfl (by rw [Try.ntmps120]; exact Nat.le_of_ble_eq_true rfl) rfl (by simp only [szA, List.mem_cons, List.not_mem_nil, or_false, forall_eq_or_imp, forall_eq, VT.cells, szL]; try decide) ?_
  rw [Try.ntmps120]
  simp only [push_cast, ↓brB_true, ↓brB_false, ↓reduceIte, zA, zB, zC, zD, zE, zF, zG, zH, zI, reduceCtorEq]
  refine awp_seq' fun K hK => ?_
  refine awp_region tyOk tyPos [] rfl ?_
  all_goals simp only [push_cast, ↓brB_true, ↓brB_false, ↓reduceIte, zA, zB, zC, zD, zE, zF, zG, zH, zI, reduceCtorEq]
  all_goals repeat' (first | (apply brB_mk <;> (intro hg; (try simp only [push_cast] at hg))) | apply And.intro | (intro hg; (try simp only [push_cast] at hg)))
  all_goals first | exact gA | (intro h0; omega) | skip
  all_goals first | (refine hK _ ?_; clear hK K) | (simp only [push_cast]; done)
  refine awp_seq' fun K1 hK1 => ?_
  refine awp_seq' fun K hK => ?_
  refine awp_region tyOk tyPos [] rfl ?_
  all_goals simp only [push_cast, ↓brB_true, ↓brB_false, ↓reduceIte, zA, zB, zC, zD, zE, zF, zG, zH, zI, reduceCtorEq]
  all_goals repeat' (first | (apply brB_mk <;> (intro hg; (try simp only [push_cast] at hg))) | apply And.intro | (intro hg; (try simp only [push_cast] at hg)))
  all_goals first | exact gA | (intro h0; omega) | skip
  all_goals first | (refine hK _ ?_; clear hK K) | (simp only [push_cast]; done)
  refine awp_block ?_
  refine awp_loopU [9,10,11,12,13,14,15,16,17,18,19,20,21,22,23,24,25,26,27,28,29,30,31,32,33,34,35,36,37,38,39,40,41,42,43,44,45,46,47,48,49,50,51,52,53] [] (fun (q : Int) => [(9, .int .i64 q)]) (fun q => []) (fun q => []) (fun q => 1 ≤ q ∧ q ≤ q0) (fun q => (q0 - q).toNat) 1 ?_ ⟨by omega, by omega⟩ ?_
  ·
    refine cov_of rfl ?_ ?_ ?_ <;> simp only [covS, covL, push_cast, ↓brB_true, ↓brB_false, ↓reduceIte, zA, zB, zC, zD, zE, zF, zG, zH, zI, reduceCtorEq]
  · rintro q ⟨hk1, hk2⟩ KL0 hL0
    have hb1 := mul_bd (x := x) (q := q) (X := 3000000000) (Q := 8) hx (by omega) (by omega) (by omega)
    have hb2 := mul_bd (x := e) (q := q) (X := 16000) (Q := 8) (by omega) (by omega) (by omega) (by omega)
    have hb3 := tdiv_bd (B := 24000000000) S (by omega : -24000000000 ≤ x * q ∧ x * q ≤ 24000000000)
    simp only [push_cast, ↓brB_true, ↓brB_false, ↓reduceIte, zA, zB, zC, zD, zE, zF, zG, zH, zI, reduceCtorEq]
    refine awp_seq' fun K2 hK2 => ?_
    refine awp_seq' fun K hK => ?_
    refine awp_region tyOk tyPos [] rfl ?_
    all_goals simp only [push_cast, ↓brB_true, ↓brB_false, ↓reduceIte, zA, zB, zC, zD, zE, zF, zG, zH, zI, reduceCtorEq]
    all_goals repeat' (first | (apply brB_mk <;> (intro hg; (try simp only [push_cast] at hg))) | apply And.intro | (intro hg; (try simp only [push_cast] at hg)))
    all_goals first | exact gA | (intro h0; omega) | skip
    all_goals first | (refine hK _ ?_; clear hK K) | (simp only [push_cast]; done)
    refine awp_cond rfl (fun hc => ?_) (fun hc => ?_)
    rotate_left
    · exfalso; first | (cases hc; done) | (simp only [push_cast] at hc; done) | (simp only [push_cast] at hc; omega) | omega
    refine awp_skip ?_
    (try simp only [AThen, ABlk, reduceIte, zF]); refine hK2 _ ?_
    refine awp_seq' fun K3 hK3 => ?_
    refine awp_block ?_
    refine awp_seq' fun K hK => ?_
    refine awp_region tyOk tyPos [] rfl ?_
    all_goals simp only [push_cast, ↓brB_true, ↓brB_false, ↓reduceIte, zA, zB, zC, zD, zE, zF, zG, zH, zI, reduceCtorEq]
    all_goals repeat' (first | (apply brB_mk <;> (intro hg; (try simp only [push_cast] at hg))) | apply And.intro | (intro hg; (try simp only [push_cast] at hg)))
    all_goals first | exact gA | (intro h0; omega) | skip
    all_goals first | (refine hK _ ?_; clear hK K) | (simp only [push_cast]; done)
    refine awp_seq' fun K hK => ?_
    refine awp_region tyOk tyPos [] rfl ?_
    all_goals simp only [push_cast, ↓brB_true, ↓brB_false, ↓reduceIte, zA, zB, zC, zD, zE, zF, zG, zH, zI, reduceCtorEq]
    all_goals repeat' (first | (apply brB_mk <;> (intro hg; (try simp only [push_cast] at hg))) | apply And.intro | (intro hg; (try simp only [push_cast] at hg)))
    all_goals first | exact gA | (intro h0; omega) | skip
    all_goals first | (refine hK _ ?_; clear hK K) | (simp only [push_cast]; done)
    refine awp_block ?_
    obtain ⟨P, hP⟩ : ∃ P, P = (x * q).tdiv S := ⟨_, rfl⟩
    rw [← hP] at hb3 ⊢
    have hst : q = q0 → P - 1 ≤ p0 ∧ p0 ≤ P + 1 := fun h9 => by rw [hP, h9]; exact hm.2
    refine awp_loopU [11,12,25,26,27,28,29,30,31,32,33,34,35,36,37,38,39,40,41,42,43,44,45,46,47,48,49,50,51,52,53] [] (fun (d : Int) => [(11, .int .i64 d)]) (fun d => []) (fun d => []) (fun d => P - 1 ≤ d ∧ d ≤ P + 2 ∧ (q = q0 → d ≤ p0)) (fun d => (P + 2 - d).toNat) (P - 1) ?_ ⟨by omega, by omega, fun h9 => (hst h9).1⟩ ?_
    ·
      refine cov_of rfl ?_ ?_ ?_ <;> simp only [covS, covL, push_cast, ↓brB_true, ↓brB_false, ↓reduceIte, zA, zB, zC, zD, zE, zF, zG, zH, zI, reduceCtorEq]
    · rintro d ⟨hd1, hd2, hd3⟩ KL1 hL1
      have hb4 := mul_bd (x := d) (q := S) (X := 24000000002) (Q := 2048001) (by omega) (by omega) (by omega) (by omega)
      simp only [push_cast, ↓brB_true, ↓brB_false, ↓reduceIte, zA, zB, zC, zD, zE, zF, zG, zH, zI, reduceCtorEq]
      refine awp_seq' fun K4 hK4 => ?_
      refine awp_seq' fun K hK => ?_
      refine awp_region tyOk tyPos [] rfl ?_
      all_goals simp only [push_cast, ↓brB_true, ↓brB_false, ↓reduceIte, zA, zB, zC, zD, zE, zF, zG, zH, zI, reduceCtorEq]
      all_goals repeat' (first | (apply brB_mk <;> (intro hg; (try simp only [push_cast] at hg))) | apply And.intro | (intro hg; (try simp only [push_cast] at hg)))
      all_goals first | exact gA | (intro h0; omega) | skip
      all_goals first | (refine hK _ ?_; clear hK K) | (simp only [push_cast]; done)
      refine awp_cond rfl (fun hc => ?_) (fun hc => ?_) <;> (try simp only [push_cast] at hc)
      ·
        refine awp_skip ?_
        (try simp only [AThen, ABlk, reduceIte, zF]); refine hK4 _ ?_
        refine awp_seq' fun K5 hK5 => ?_
        refine awp_block ?_
        refine awp_seq' fun K hK => ?_
        refine awp_region tyOk tyPos [] rfl ?_
        all_goals simp only [push_cast, ↓brB_true, ↓brB_false, ↓reduceIte, zA, zB, zC, zD, zE, zF, zG, zH, zI, reduceCtorEq]
        all_goals repeat' (first | (apply brB_mk <;> (intro hg; (try simp only [push_cast] at hg))) | apply And.intro | (intro hg; (try simp only [push_cast] at hg)))
        all_goals first | exact gA | (intro h0; omega) | skip
        all_goals first | (refine hK _ ?_; clear hK K) | (simp only [push_cast]; done)
        refine awp_seq' fun K hK => ?_
        refine awp_regionN false tyOk tyPos ?_ rfl ?_
        · kernel_rfl
        all_goals simp only [push_cast, ↓brB_true, ↓brB_false, ↓reduceIte, zA, zB, zC, zD, zE, zF, zG, zH, zI, reduceCtorEq]
        all_goals repeat' (first | (apply brB_mk <;> (intro hg; (try simp only [push_cast] at hg))) | apply And.intro | (intro hg; (try simp only [push_cast] at hg)))
        all_goals first | exact gA | (intro h0; omega) | skip
        all_goals first | (refine hK _ ?_; clear hK K) | (simp only [push_cast]; done)
        all_goals refine awp_cond rfl (fun hc => ?_) (fun hc => ?_)
        all_goals (first | (cases hc; done) | skip)
        all_goals (try simp only [push_cast] at hc)
        all_goals first
          | (
              refine awp_skip ?_
              (try simp only [AThen, ABlk, reduceIte, zF]); refine hK5 _ ?_
              refine awp_region tyOk tyPos [] rfl ?_
              all_goals simp only [push_cast, ↓brB_true, ↓brB_false, ↓reduceIte, zA, zB, zC, zD, zE, zF, zG, zH, zI, reduceCtorEq]
              all_goals repeat' (first | (apply brB_mk <;> (intro hg; (try simp only [push_cast] at hg))) | apply And.intro | (intro hg; (try simp only [push_cast] at hg)))
              all_goals first | exact gA | (intro h0; omega) | skip
              refine hL1 _ ⟨d + 1, ⟨by omega, by omega, fun h9 => (by
                  have h8 := hd3 h9
                  have h7 := (hst h9).2
                  by_cases h6 : d = p0
                  · exfalso
                    have h5 := hm.1
                    rw [← h9, ← h6] at h5
                    omega
                  · omega)⟩, by omega, ?_⟩
              refine cov_of rfl ?_ ?_ ?_ <;> simp only [covS, covL, push_cast, ↓brB_true, ↓brB_false, ↓reduceIte, zA, zB, zC, zD, zE, zF, zG, zH, zI, reduceCtorEq]
              done)
          | (
              refine awp_seq' fun K hK => ?_
              refine awp_region tyOk tyPos [] rfl ?_
              all_goals refine aops_cut 3 fun K9 hK9 => ?_
              all_goals simp only [push_cast, ↓brB_true, ↓brB_false, ↓reduceIte, zA, zB, zC, zD, zE, zF, zG, zH, zI, reduceCtorEq]
              all_goals repeat' (first | (apply brB_mk <;> (intro hg; (try simp only [push_cast] at hg))) | (refine ⟨_, hF d q (by omega) (by omega), ?_⟩; simp only [push_cast, ↓brB_true, ↓brB_false, ↓reduceIte, zA, zB, zC, zD, zE, zF, zG, zH, zI, reduceCtorEq]) | apply And.intro | (intro hg; (try simp only [push_cast] at hg)))
              all_goals first | exact gA | (intro h0; omega) | skip
              all_goals first | (refine hK9 _ ?_; clear hK9 K9) | (simp only [push_cast]; done)
              all_goals simp only [push_cast, ↓brB_true, ↓brB_false, ↓reduceIte, zA, zB, zC, zD, zE, zF, zG, zH, zI, reduceCtorEq]
              all_goals repeat' (first | (apply brB_mk <;> (intro hg; (try simp only [push_cast] at hg))) | (refine ⟨_, hF d q (by omega) (by omega), ?_⟩; simp only [push_cast, ↓brB_true, ↓brB_false, ↓reduceIte, zA, zB, zC, zD, zE, zF, zG, zH, zI, reduceCtorEq]) | apply And.intro | (intro hg; (try simp only [push_cast] at hg)))
              all_goals first | exact gA | (intro h0; omega) | skip
              all_goals first | (refine hK _ ?_; clear hK K) | (simp only [push_cast]; done)
              refine awp_ret ?_
              (try simp only [AThen, ABlk])
              refine ⟨Or.inl rfl, ?_⟩
              simp only [RetOk, resVars, resVar, push_cast, ↓brB_true, ↓brB_false, ↓reduceIte, zA, zB, zC, zD, zE, zF, zG, zH, zI, reduceCtorEq]
              all_goals (rw [← hac d q (by omega) (by omega) (by omega) (by omega)]; first | rfl | exact ⟨rfl, rfl⟩ | (simp; done))
              done)
      ·
        refine awp_exit ?_
        have hne : q ≠ q0 := fun h9 => by have h8 := hd3 h9; have h7 := (hst h9).2; omega
        (try simp only [AThen, ABlk, reduceIte, zF]); refine hK3 _ ?_
        refine awp_region tyOk tyPos [] rfl ?_
        all_goals simp only [push_cast, ↓brB_true, ↓brB_false, ↓reduceIte, zA, zB, zC, zD, zE, zF, zG, zH, zI, reduceCtorEq]
        all_goals repeat' (first | (apply brB_mk <;> (intro hg; (try simp only [push_cast] at hg))) | apply And.intro | (intro hg; (try simp only [push_cast] at hg)))
        all_goals first | exact gA | (intro h0; omega) | skip
        refine hL0 _ ⟨q + 1, ⟨by omega, by omega⟩, by omega, ?_⟩
        refine cov_of rfl ?_ ?_ ?_ <;> simp only [covS, covL, push_cast, ↓brB_true, ↓brB_false, ↓reduceIte, zA, zB, zC, zD, zE, zF, zG, zH, zI, reduceCtorEq]
structure BestN (x S q bn bd off : Int) : Prop where
  first : q = 1 → bn = 0 ∧ bd = 0 ∧ off = 0
  pos : q ≠ 1 → 1 ≤ bd ∧ bd < q ∧ bn = rndN x S bd ∧ off = dstN' x S bd ∧ ∀ k, 1 ≤ k → k < q → off * k ≤ dstN' x S k * bd
theorem BestN.take {x S q bn bd off : Int} (h : BestN x S q bn bd off) (hq : 1 ≤ q) (hc : bd = 0 ∨ dstN' x S q * bd < off * q) : BestN x S (q + 1) (rndN x S q) q (dstN' x S q) := by
  refine ⟨fun h9 => by omega, fun _ => ⟨hq, by omega, rfl, rfl, fun k h1 h2 => ?_⟩⟩
  rcases Int.lt_trichotomy k q with h3 | h3 | h3
  · have hn1 : q ≠ 1 := by omega
    obtain ⟨p1, p2, p3, p4, p5⟩ := h.pos hn1
    have hc' : dstN' x S q * bd < off * q := by
      rcases hc with h0 | h0
      · omega
      · exact h0
    have h5 := p5 k h1 h3
    -- dst q / q < off / bd ≤ dst k / k
    have a1 : (dstN' x S q * bd) * k ≤ (off * q) * k := Int.mul_le_mul_of_nonneg_right (by omega) (by omega)
    have a2 : (off * k) * q ≤ (dstN' x S k * bd) * q := Int.mul_le_mul_of_nonneg_right h5 (by omega)
    have e1 : (dstN' x S q * bd) * k = (dstN' x S q * k) * bd := by ac_rfl
    have e2 : (off * q) * k = (off * k) * q := by ac_rfl
    have e3 : (dstN' x S k * bd) * q = (dstN' x S k * q) * bd := by ac_rfl
    rw [e1, e2] at a1
    rw [e3] at a2
    exact Int.le_of_mul_le_mul_right (Int.le_trans a1 a2) (by omega)
  · subst h3; exact Int.le_refl _
  · omega
theorem BestN.keep {x S q bn bd off : Int} (h : BestN x S q bn bd off) (hq : 1 ≤ q) (hc : ¬ bd = 0) (hc2 : ¬ dstN' x S q * bd < off * q) : BestN x S (q + 1) bn bd off := by
  have hn1 : q ≠ 1 := fun e => hc (h.first e).2.1
  obtain ⟨p1, p2, p3, p4, p5⟩ := h.pos hn1
  refine ⟨fun h9 => by omega, fun _ => ⟨p1, by omega, p3, p4, fun k h1 h2 => ?_⟩⟩
  rcases Int.lt_or_le k q with h3 | h3
  · exact p5 k h1 h3
  · have : k = q := by omega
    subst this
    omega
end Go.Proofs.Ytdbecmmeifdafaa

namespace Go.Proofs.Ytdbecmmeifdafaa.MV
open Go.RowKit
set_option linter.unusedVariables false
set_option linter.unusedSimpArgs false

end Go.Proofs.Ytdbecmmeifdafaa.MV

namespace Go.Proofs.Ytdbecmmeifdafaa
open Go.RowKit MV
set_option linter.unusedVariables false
set_option linter.unusedSimpArgs false

theorem gm_ok20 {w : Wt} (hw : WSh w) : (gmW w).Ok w.a.owner.length 20000 :=
  ⟨fun v hv => (hw.row v hv).2.1, fun v hv j hj => by have := hw.to v hv j hj; show (gi (gl w.a.next v) j).toNat < _; omega, fun v hv j hj => (hw.bd v hv j hj).1, fun v hv j hj => (hw.bd v hv j hj).2⟩
end Go.Proofs.Ytdbecmmeifdafaa

namespace Go.Proofs.Ytdbecmmeifdafaa
open Go.RowKit
set_option linter.unusedVariables false
set_option linter.unusedSimpArgs false

open MV (Gm)
theorem optB_1 (mx : Bool) (f : Nat → Int) : MV.optB mx f 1 = f 0 := rfl
theorem optB_up {mx : Bool} {f : Nat → Int} {k : Nat} (h : (mx = true ∧ f (k + 1) > MV.optB mx f (k + 1)) ∨ (mx = false ∧ f (k + 1) < MV.optB mx f (k + 1))) : MV.optB mx f (k + 2) = f (k + 1) := by
  rw [MV.optB_s, if_pos h]
theorem optB_no {mx : Bool} {f : Nat → Int} {k : Nat} (h : ¬ ((mx = true ∧ f (k + 1) > MV.optB mx f (k + 1)) ∨ (mx = false ∧ f (k + 1) < MV.optB mx f (k + 1)))) : MV.optB mx f (k + 2) = MV.optB mx f (k + 1) := by
  rw [MV.optB_s, if_neg h]
def bestK (w : Wt) (k v i : Nat) : Int := MV.optB (decide (gi w.a.owner v = 0)) (edgeV w k v) (max i 1)
theorem bestK_0 (w : Wt) (k v : Nat) : bestK w k v 0 = edgeV w k v 0 := rfl
theorem bestK_all {w : Wt} {k v : Nat} (h : 1 ≤ (gl w.a.next v).length) : bestK w k v (gl w.a.next v).length = (gmW w).pay (k + 1) v := by
  unfold bestK
  rw [pay_s, Nat.max_eq_left h]
theorem bestK_yes {w : Wt} {k v i : Nat} (hc : (gi w.a.owner v = 0 ∧ edgeV w k v i > bestK w k v i) ∨ (¬ gi w.a.owner v = 0 ∧ edgeV w k v i < bestK w k v i)) : bestK w k v (i + 1) = edgeV w k v i := by
  unfold bestK at hc ⊢
  cases i with
  | zero =>
    rw [show max 0 1 = 1 from rfl, optB_1] at hc
    omega
  | succ i =>
    rw [show max (i + 1) 1 = i + 1 from by omega] at hc
    rw [show max (i + 1 + 1) 1 = i + 2 from by omega]
    refine optB_up ?_
    by_cases h : gi w.a.owner v = 0
    · simp only [decide_eq_true h] at hc ⊢
      exact .inl ⟨trivial, by omega⟩
    · simp only [decide_eq_false h] at hc ⊢
      exact .inr ⟨trivial, by omega⟩
theorem bestK_no {w : Wt} {k v i : Nat} (hc : ¬ ((gi w.a.owner v = 0 ∧ edgeV w k v i > bestK w k v i) ∨ (¬ gi w.a.owner v = 0 ∧ edgeV w k v i < bestK w k v i))) : bestK w k v (i + 1) = bestK w k v i := by
  unfold bestK at hc ⊢
  cases i with
  | zero => rfl
  | succ i =>
    rw [show max (i + 1) 1 = i + 1 from by omega] at hc
    rw [show max (i + 1 + 1) 1 = i + 2 from by omega, show max (i + 1) 1 = i + 1 from by omega]
    refine optB_no fun h9 => hc ?_
    by_cases h : gi w.a.owner v = 0
    · simp only [decide_eq_true h] at h9 ⊢
      rcases h9 with h9 | h9
      · exact .inl ⟨h, h9.2⟩
      · cases h9.1
    · simp only [decide_eq_false h] at h9 ⊢
      rcases h9 with h9 | h9
      · cases h9.1
      · exact .inr ⟨h, h9.2⟩
theorem bestK_bd {w : Wt} (h : WMn w) {k v i : Nat} (hv : v < w.a.owner.length) (hi : i ≤ (gl w.a.next v).length) (hk : k ≤ 2048001) : -2048002000 ≤ bestK w k v i ∧ bestK w k v i ≤ 2048002000 := by
  have h1 := (h.sh.row v hv).2.1
  exact optB_bd (by omega) fun j hj => edge_bd h hv (by omega) hk
theorem set_keep {z : List Int} {v u : Nat} {x : Int} (h : u ≠ v) : gi (z.set v x) u = gi z u := by
  unfold gi
  rw [List.getD_eq_getElem?_getD, List.getElem?_set_ne (Ne.symm h), List.getD_eq_getElem?_getD]
theorem set_same {z : List Int} {v : Nat} {x : Int} (h : v < z.length) : gi (z.set v x) v = x := by
  unfold gi
  rw [List.getD_eq_getElem?_getD, List.getElem?_set_self h]
  rfl
theorem near_val {w : Wt} (h : WMn w) {v : Nat} (hv : v < w.a.owner.length) (k : Nat) : NearM (gi (payL w k) v) k w.a.owner.length (mostW w) ((gmW w).val w.a.owner.length v).1 ((gmW w).val w.a.owner.length v).2 := by
  have h1 := Gm.val_ok h.game hv
  have h2 := Gm.val_ge h.game (by have := h.mW; omega) hv k
  have h3 := Gm.val_le h.game (by have := h.mW; omega) hv k
  have hn1 := h.sh.n1
  have hn8 := h.n8
  rw [payL_gi hv]
  exact ⟨by omega, by omega, h.mW.1, h.mW.2, h1.1, h1.2.1, by omega, by omega⟩
theorem steps_nat {w : Wt} (h : WMn w) : ∃ T : Nat, (T : Int) = 4 * (w.a.owner.length * w.a.owner.length * w.a.owner.length * mostW w) ∧ T ≤ 2048000 := by
  have hb := nW_bd (n := w.a.owner.length) (W := mostW w) (by have := h.sh.n1; omega) (by have := h.n8; omega) h.mW.1 h.mW.2
  refine ⟨(4 * (w.a.owner.length * w.a.owner.length * w.a.owner.length * mostW w) : Int).toNat, by omega, by omega⟩
end Go.Proofs.Ytdbecmmeifdafaa

namespace Go.Proofs.Ytdbecmmeifdafaa
open Go.RowKit
set_option linter.unusedVariables false
set_option linter.unusedSimpArgs false

open MV (Gm)
end Go.Proofs.Ytdbecmmeifdafaa
