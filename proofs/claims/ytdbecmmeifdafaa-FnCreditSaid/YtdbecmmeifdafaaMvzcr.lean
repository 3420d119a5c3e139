/- The value of a mean-payoff game: the game of the first loop is within a bounded rest of every long play; and what both sides' rounding finds. Plain. -/
import Derived.Test.YtdbecmmeifdafaaLoopMeanzcr
namespace Go.Proofs.Ytdbecmmeifdafaa.MV
open Go.RowKit
set_option linter.unusedVariables false
set_option linter.unusedSimpArgs false

/-- A game: who wants much, how many ways, where to, what it brings. -/
structure Gm where
  mx : Nat → Bool
  deg : Nat → Nat
  to : Nat → Nat → Nat
  c : Nat → Nat → Int
structure Gm.Ok (g : Gm) (n : Nat) (W : Int) : Prop where
  deg : ∀ v, v < n → 1 ≤ g.deg v
  to : ∀ v, v < n → ∀ j, j < g.deg v → g.to v j < n
  lo : ∀ v, v < n → ∀ j, j < g.deg v → -W ≤ g.c v j
  hi : ∀ v, v < n → ∀ j, j < g.deg v → g.c v j ≤ W
/-! ### the game of the first loop -/
/-- Fractions, compared crosswise. -/
def less (x y : Int × Int) : Prop := x.1 * y.2 < y.1 * x.2
instance (x y : Int × Int) : Decidable (less x y) := by unfold less; exact inferInstance
def optF (mx : Bool) (f : Nat → Int × Int) : Nat → Int × Int
  | 0 => (0, 1)
  | 1 => f 0
  | k + 2 => if (mx = true ∧ less (optF mx f (k + 1)) (f (k + 1))) ∨ (mx = false ∧ less (f (k + 1)) (optF mx f (k + 1))) then f (k + 1) else optF mx f (k + 1)
def neg (x : Int × Int) : Int × Int := (-x.1, x.2)
/-- x is at least m (Q of m is positive). -/
def atL (m x : Int × Int) : Prop := m.1 * x.2 ≤ x.1 * m.2
/-- The way so far, the latest first: vertex, and the sum ahead of it. -/
def findS (v : Nat) : List (Nat × Int) → Nat → Option (Nat × Int)
  | [], _ => none
  | (u, s) :: S, i => if u = v then some (i, s) else findS v S (i + 1)
def Gm.first (g : Gm) : Nat → List (Nat × Int) → Nat → Int → Int × Int
  | 0, _, _, _ => (0, 1)
  | f + 1, S, v, s =>
    match findS v S 0 with
    | some (i, s0) => (s - s0, (i : Int) + 1)
    | none => optF (g.mx v) (fun j => g.first f ((v, s) :: S) (g.to v j) (s + g.c v j)) (g.deg v)
/-- A way that is one: no vertex twice, steps of at most W. -/
inductive Way (n : Nat) (W : Int) : List (Nat × Int) → Nat → Int → Prop
  | nil {v : Nat} : v < n → Way n W [] v 0
  | cons {S : List (Nat × Int)} {u : Nat} {r : Int} {v : Nat} {s : Int} : Way n W S u r → u ∉ S.map (·.1) → v < n → s ≤ r + W → r - W ≤ s → Way n W ((u, r) :: S) v s
theorem Way.lt {n : Nat} {W : Int} {S : List (Nat × Int)} {v : Nat} {s : Int} (h : Way n W S v s) : v < n := by cases h <;> assumption
theorem Way.mem {n : Nat} {W : Int} {S : List (Nat × Int)} {v : Nat} {s : Int} (h : Way n W S v s) : (S.map (·.1)).Nodup ∧ ∀ x ∈ S.map (·.1), x < n := by
  induction h with
  | nil _ => simp
  | cons h1 h2 h3 h4 h5 ih =>
    simp only [List.map_cons, List.nodup_cons]
    refine ⟨⟨h2, ih.1⟩, fun x hx => ?_⟩
    rcases List.mem_cons.1 hx with rfl | hx
    · exact h1.lt
    · exact ih.2 x hx
theorem nodup_len : ∀ (n : Nat) (l : List Nat), l.Nodup → (∀ x ∈ l, x < n) → l.length ≤ n
  | 0, l, _, h => by
    cases l with
    | nil => simp
    | cons x l => have := h x (by simp); omega
  | n + 1, l, hd, h => by
    have h1 : (l.filter (fun x => x ≠ n)).length ≤ n := nodup_len n _ (hd.filter _) fun x hx => by
      have := List.mem_filter.1 hx
      have h2 := h x this.1
      have h3 : x ≠ n := by simpa using this.2
      omega
    have h2 : l.length ≤ (l.filter (fun x => x ≠ n)).length + 1 := by
      clear h1 h
      induction l with
      | nil => simp
      | cons x l ih =>
        rw [List.nodup_cons] at hd
        by_cases hx : x = n
        · subst hx
          have : l.filter (fun y => y ≠ x) = l := List.filter_eq_self.2 fun y hy => by
            have : y ≠ x := fun e => hd.1 (e ▸ hy)
            simpa using this
          rw [List.filter_cons_of_neg (by simp), this]
          simp
        · rw [List.filter_cons_of_pos (by simpa using hx)]
          have := ih hd.2
          simp only [List.length_cons]
          omega
    omega
theorem Way.len {n : Nat} {W : Int} {S : List (Nat × Int)} {v : Nat} {s : Int} (h : Way n W S v s) : S.length ≤ n := by
  have := nodup_len n _ h.mem.1 h.mem.2
  simpa using this
theorem Way.sum {n : Nat} {W : Int} {S : List (Nat × Int)} {v : Nat} {s : Int} (h : Way n W S v s) : -(S.length * W) ≤ s ∧ s ≤ S.length * W := by
  induction h with
  | nil _ => simp
  | cons h1 h2 h3 h4 h5 ih =>
    simp only [List.length_cons, Int.natCast_add, Int.add_mul, Int.natCast_one, Int.one_mul]
    omega
/-- Back to an earlier place of the way. -/
theorem Way.back {n : Nat} {W : Int} {S : List (Nat × Int)} {v : Nat} {s : Int} (h : Way n W S v s) : ∀ {j : Nat} {u : Nat} {r : Int}, S[j]? = some (u, r) → Way n W (S.drop (j + 1)) u r ∧ u ∉ (S.drop (j + 1)).map (·.1) ∧ s - r ≤ (j + 1) * W ∧ -((j + 1) * W) ≤ s - r := by
  induction h with
  | nil _ => intro j u r h; simp at h
  | @cons S u r v s h1 h2 h3 h4 h5 ih =>
    intro j u' r' h
    cases j with
    | zero =>
      simp at h
      obtain ⟨rfl, rfl⟩ := h
      simp only [List.drop_succ_cons, List.drop_zero]
      exact ⟨h1, h2, by omega, by omega⟩
    | succ j =>
      simp at h
      obtain ⟨k1, k2, k3, k4⟩ := ih h
      refine ⟨by simpa using k1, by simpa using k2, ?_, ?_⟩ <;>
      · simp only [Int.natCast_add, Int.add_mul, Int.natCast_one, Int.one_mul] at *
        omega

/-- Along the way, it stayed at least m. -/
inductive Good (g : Gm) (n : Nat) (m : Int × Int) : List (Nat × Int) → Nat → Int → Prop
  | nil {v : Nat} : atL m (g.first (n + 1) [] v 0) → Good g n m [] v 0
  | cons {S : List (Nat × Int)} {u : Nat} {r : Int} {v : Nat} {s : Int} : Good g n m S u r → atL m (g.first (n + 1 - (S.length + 1)) ((u, r) :: S) v s) → Good g n m ((u, r) :: S) v s
theorem Good.back {g : Gm} {n : Nat} {m : Int × Int} {S : List (Nat × Int)} {v : Nat} {s : Int} (h : Good g n m S v s) : ∀ {j : Nat} {u : Nat} {r : Int}, S[j]? = some (u, r) → Good g n m (S.drop (j + 1)) u r := by
  induction h with
  | nil _ => intro j u r h; simp at h
  | cons h1 h2 ih =>
    intro j u' r' h
    cases j with
    | zero =>
      simp at h
      obtain ⟨rfl, rfl⟩ := h
      simpa using h1
    | succ j =>
      simp at h
      simpa using ih h
/-- The rest of so long a play is small. -/
theorem small {n W q : Int} (hn : 1 ≤ n) (hW : 1 ≤ W) (hq : 1 ≤ q) (hqn : q ≤ n) : 0 ≤ (n - 1) * (q * W) ∧ (n - 1) * (q * W) ≤ n * n * n * W - W ∧ 2 * ((n - 1) * W) * (n * n) = 2 * (n * n * n * W) - 2 * (n * n * W) ∧ W ≤ n * n * W ∧ (2 * n * W) * (n * n) = 2 * (n * n * n * W) ∧ n * n * W ≤ n * n * n * W := by
  have h0 : 0 ≤ (n - 1) * (q * W) := Int.mul_nonneg (by omega) (Int.mul_nonneg (by omega) (by omega))
  have h1 : q * W ≤ n * W := Int.mul_le_mul_of_nonneg_right hqn (by omega)
  have h2 : (n - 1) * (q * W) ≤ (n - 1) * (n * W) := Int.mul_le_mul_of_nonneg_left h1 (by omega)
  have e1 : (n - 1) * (n * W) = n * n * W - n * W := by rw [Int.sub_mul, Int.one_mul]; congr 1; ac_rfl
  have h3 : 1 * W ≤ n * W := Int.mul_le_mul_of_nonneg_right hn (by omega)
  have h4 : 1 * (n * W) ≤ n * (n * W) := Int.mul_le_mul_of_nonneg_right hn (by omega)
  have e4 : n * (n * W) = n * n * W := by ac_rfl
  have h5 : 1 * (n * n * W) ≤ n * (n * n * W) := Int.mul_le_mul_of_nonneg_right hn (Int.mul_nonneg (Int.mul_nonneg (by omega) (by omega)) (by omega))
  have e5 : n * (n * n * W) = n * n * n * W := by ac_rfl
  have e2 : 2 * ((n - 1) * W) * (n * n) = 2 * (n * n * n * W) - 2 * (n * n * W) := by
    rw [Int.sub_mul, Int.one_mul, Int.mul_sub, Int.sub_mul]; congr 1 <;> ac_rfl
  have e3 : (2 * n * W) * (n * n) = 2 * (n * n * n * W) := by ac_rfl
  omega

end Go.Proofs.Ytdbecmmeifdafaa.MV
