/- Credits and means: a credit is finite exactly if what the steps bring is bounded from below: plain. -/
import Derived.Test.YtdbecmmeifdafaaCxzmb
import Derived.Test.YtdbecmmeifdafaaMnzmb
namespace Go.Proofs.Ytdbecmmeifdafaa.MV
open Go.RowKit
set_option linter.unusedVariables false
set_option linter.unusedSimpArgs false

/-- What so many steps need. -/
def Gm.en (g : Gm) : Nat → Nat → Int
  | 0, _ => 0
  | k + 1, v => optB (!g.mx v) (fun j => max 0 (g.en k (g.to v j) - g.c v j)) (g.deg v)
theorem Gm.en_x {g : Gm} {v : Nat} (h : g.mx v = true) (hd : 1 ≤ g.deg v) (k : Nat) : (∃ j, j < g.deg v ∧ g.en (k + 1) v = max 0 (g.en k (g.to v j) - g.c v j)) ∧ ∀ j, j < g.deg v → g.en (k + 1) v ≤ max 0 (g.en k (g.to v j) - g.c v j) := by
  have e : g.en (k + 1) v = optB false (fun j => max 0 (g.en k (g.to v j) - g.c v j)) (g.deg v) := by show optB (!g.mx v) _ _ = _; rw [h]; rfl
  rw [e]
  exact ⟨optB_ex _ _ _ hd, fun j hj => optB_min _ _ j hj⟩
theorem Gm.en_n {g : Gm} {v : Nat} (h : g.mx v = false) (hd : 1 ≤ g.deg v) (k : Nat) : (∃ j, j < g.deg v ∧ g.en (k + 1) v = max 0 (g.en k (g.to v j) - g.c v j)) ∧ ∀ j, j < g.deg v → max 0 (g.en k (g.to v j) - g.c v j) ≤ g.en (k + 1) v := by
  have e : g.en (k + 1) v = optB true (fun j => max 0 (g.en k (g.to v j) - g.c v j)) (g.deg v) := by show optB (!g.mx v) _ _ = _; rw [h]; rfl
  rw [e]
  exact ⟨optB_ex _ _ _ hd, fun j hj => optB_max _ _ j hj⟩
theorem Gm.pay_x {g : Gm} {v : Nat} (h : g.mx v = true) (hd : 1 ≤ g.deg v) (k : Nat) : (∃ j, j < g.deg v ∧ g.pay (k + 1) v = g.c v j + g.pay k (g.to v j)) ∧ ∀ j, j < g.deg v → g.c v j + g.pay k (g.to v j) ≤ g.pay (k + 1) v := by
  have e : g.pay (k + 1) v = optB true (fun j => g.c v j + g.pay k (g.to v j)) (g.deg v) := by show optB (g.mx v) _ _ = _; rw [h]
  rw [e]
  exact ⟨optB_ex _ _ _ hd, fun j hj => optB_max (fun j => g.c v j + g.pay k (g.to v j)) _ j hj⟩
theorem Gm.pay_n {g : Gm} {v : Nat} (h : g.mx v = false) (hd : 1 ≤ g.deg v) (k : Nat) : (∃ j, j < g.deg v ∧ g.pay (k + 1) v = g.c v j + g.pay k (g.to v j)) ∧ ∀ j, j < g.deg v → g.pay (k + 1) v ≤ g.c v j + g.pay k (g.to v j) := by
  have e : g.pay (k + 1) v = optB false (fun j => g.c v j + g.pay k (g.to v j)) (g.deg v) := by show optB (g.mx v) _ _ = _; rw [h]
  rw [e]
  exact ⟨optB_ex _ _ _ hd, fun j hj => optB_min (fun j => g.c v j + g.pay k (g.to v j)) _ j hj⟩
theorem Gm.en_mono {g : Gm} {n : Nat} {W : Int} (hg : g.Ok n W) : ∀ k v, v < n → 0 ≤ g.en k v ∧ g.en k v ≤ g.en (k + 1) v
  | 0, v, hv => by
    have hd := hg.deg v hv
    refine ⟨Int.le_refl _, ?_⟩
    show (0 : Int) ≤ _
    cases h : g.mx v
    · obtain ⟨j, hj, e⟩ := (Gm.en_n h hd 0).1; rw [e]; omega
    · obtain ⟨j, hj, e⟩ := (Gm.en_x h hd 0).1; rw [e]; omega
  | k + 1, v, hv => by
    have hd := hg.deg v hv
    have ih := Gm.en_mono hg k
    cases h : g.mx v
    · obtain ⟨j, hj, e⟩ := (Gm.en_n h hd k).1
      have h2 := (Gm.en_n h hd (k + 1)).2 j hj
      have h3 := ih _ (hg.to v hv j hj)
      omega
    · obtain ⟨j, hj, e⟩ := (Gm.en_x h hd (k + 1)).1
      have h2 := (Gm.en_x h hd k).2 j hj
      have h3 := ih _ (hg.to v hv j hj)
      obtain ⟨i, hi, e'⟩ := (Gm.en_x h hd k).1
      omega
theorem Gm.en_le {g : Gm} {n : Nat} {W : Int} (hg : g.Ok n W) {v : Nat} (hv : v < n) {i : Nat} : ∀ k, i ≤ k → g.en i v ≤ g.en k v
  | 0, h => by rw [show i = 0 by omega]; exact Int.le_refl _
  | k + 1, h => by
    rcases Nat.lt_or_ge i (k + 1) with h1 | h1
    · exact Int.le_trans (Gm.en_le hg hv k (by omega)) (Gm.en_mono hg k v hv).2
    · rw [show i = k + 1 by omega]; exact Int.le_refl _
/-- Where more and more is needed, the steps bring less and less. -/
theorem Gm.phase {g : Gm} {n : Nat} {W : Int} (hg : g.Ok n W) (hW : 0 ≤ W) {M : Int} (hM : 0 ≤ M) {U : Nat → Prop} (hU : ∀ v, v < n → ¬ U v → ∀ j, g.en j v ≤ M) {K : Nat} (hK : ∀ v, v < n → U v → M + W + 1 < g.en K v) :
    ∀ k u, u < n → U u → ∀ m : Nat, m * K ≤ k → g.pay k u ≤ K * W - m := by
  intro k
  induction k using Nat.strongRecOn with
  | ind k ih =>
    have Q : ∀ j, j ≤ K → ∀ k', k' ≤ k → ∀ u x, u < n → M + W + 1 ≤ x → x ≤ M + W + 1 + ((K - j : Nat) : Int) * W → x < g.en j u → ∀ m : Nat, m * K ≤ k' + (K - j) → g.pay k' u ≤ K * W - m + (M + W + 1 - x) := by
      intro j
      induction j with
      | zero => intro _ k' _ u x _ h1 _ h2; exact absurd h2 (by show ¬ x < 0; omega)
      | succ j ihj =>
        intro hjK k' hk' u x hu h1 h2 h3 m hm
        cases k' with
        | zero =>
          have hm0 : m = 0 := by
            rcases Nat.eq_zero_or_pos m with h | h
            · exact h
            · have : 1 * K ≤ m * K := Nat.mul_le_mul_right K h
              omega
          subst hm0
          have : ((K - (j + 1) : Nat) : Int) * W ≤ (K : Int) * W := Int.mul_le_mul_of_nonneg_right (by omega) hW
          show (0 : Int) ≤ _
          omega
        | succ k' =>
          have hd := hg.deg u hu
          have hedge : ∃ i, i < g.deg u ∧ g.pay (k' + 1) u ≤ g.c u i + g.pay k' (g.to u i) ∧ x + g.c u i < g.en j (g.to u i) := by
            cases hx : g.mx u
            · obtain ⟨i, hi, e⟩ := (Gm.en_n hx hd j).1
              exact ⟨i, hi, (Gm.pay_n hx hd k').2 i hi, by omega⟩
            · obtain ⟨i, hi, e⟩ := (Gm.pay_x hx hd k').1
              have := (Gm.en_x hx hd j).2 i hi
              exact ⟨i, hi, by omega, by omega⟩
          obtain ⟨i, hi, hp, hx⟩ := hedge
          have hlo := hg.lo u hu i hi
          have hhi := hg.hi u hu i hi
          have ht := hg.to u hu i hi
          have hW1 : ((K - j : Nat) : Int) * W = ((K - (j + 1) : Nat) : Int) * W + W := by
            rw [show ((K - j : Nat) : Int) = ((K - (j + 1) : Nat) : Int) + 1 by omega, Int.add_mul, Int.one_mul]
          rcases Int.lt_or_le (x + g.c u i) (M + W + 1) with h4 | h4
          · have hUt : U (g.to u i) := Classical.byContradiction fun hn => by
              have := hU _ ht hn j
              omega
            cases m with
            | zero =>
              have := ih k' (by omega) _ ht hUt 0 (by omega)
              omega
            | succ m =>
              have e : (m + 1) * K = m * K + K := Nat.succ_mul m K
              have := ih k' (by omega) _ ht hUt m (by omega)
              omega
          · have := ihj (by omega) k' (by omega) (g.to u i) (x + g.c u i) ht h4 (by omega) hx m (by omega)
            omega
    intro u hu hUu m hm
    have := Q K (Nat.le_refl _) k (Nat.le_refl _) u (M + W + 1) hu (Int.le_refl _) (by rw [Nat.sub_self]; simp) (hK u hu hUu) m (by omega)
    omega
/-- Of finitely many growing rows: those that are bounded have one bound. -/
theorem bounds_ex (E : Nat → Nat → Int) : ∀ n, ∃ M : Int, 0 ≤ M ∧ ∀ v, v < n → (∀ j, E j v ≤ M) ∨ ∀ X, ∃ j, X < E j v
  | 0 => ⟨0, Int.le_refl _, fun v hv => absurd hv (Nat.not_lt_zero v)⟩
  | n + 1 => by
    obtain ⟨M, h0, h⟩ := bounds_ex E n
    by_cases hb : ∃ X, ∀ j, E j n ≤ X
    · obtain ⟨X, hX⟩ := hb
      refine ⟨max M X, by omega, fun v hv => ?_⟩
      rcases Nat.lt_or_ge v n with h1 | h1
      · rcases h v h1 with h2 | h2
        · exact .inl fun j => by have := h2 j; omega
        · exact .inr h2
      · left; intro j; rw [show v = n by omega]; have := hX j; omega
    · refine ⟨M, h0, fun v hv => ?_⟩
      rcases Nat.lt_or_ge v n with h1 | h1
      · exact h v h1
      · right
        intro X
        rw [show v = n by omega]
        exact Classical.byContradiction fun hn => hb ⟨X, fun j => by
          rcases Int.lt_or_le X (E j n) with h2 | h2
          · exact absurd ⟨j, h2⟩ hn
          · exact h2⟩
theorem great_ex {E : Nat → Nat → Int} (X : Int) : ∀ n, (∀ v, v < n → ∀ i k, i ≤ k → E i v ≤ E k v) → ∃ K, ∀ v, v < n → (∀ X, ∃ j, X < E j v) → X < E K v
  | 0, _ => ⟨0, fun v hv => absurd hv (Nat.not_lt_zero v)⟩
  | n + 1, hm => by
    obtain ⟨K, h⟩ := great_ex X n fun v hv => hm v (by omega)
    by_cases hb : ∀ X, ∃ j, X < E j n
    · obtain ⟨j, hj⟩ := hb X
      refine ⟨max K j, fun v hv hX => ?_⟩
      rcases Nat.lt_or_ge v n with h1 | h1
      · exact Int.lt_of_lt_of_le (h v h1 hX) (hm v hv K _ (by omega))
      · rw [show v = n by omega]
        exact Int.lt_of_lt_of_le hj (hm n (by omega) j _ (by omega))
    · refine ⟨K, fun v hv hX => ?_⟩
      rcases Nat.lt_or_ge v n with h1 | h1
      · exact h v h1 hX
      · exact absurd (by rw [show v = n by omega] at hX; exact hX) hb
theorem still_one {E : Nat → Int} (hm : ∀ i k, i ≤ k → E i ≤ E k) {M : Int} (hM : ∀ j, E j ≤ M) : ∀ (m J0 : Nat), M - E J0 ≤ m → ∃ J, J0 ≤ J ∧ ∀ j, J ≤ j → E j = E J
  | 0, J0, h => ⟨J0, Nat.le_refl _, fun j hj => by have := hm J0 j hj; have := hM j; omega⟩
  | m + 1, J0, h => by
    by_cases hc : ∀ j, J0 ≤ j → E j = E J0
    · exact ⟨J0, Nat.le_refl _, hc⟩
    · obtain ⟨j, hj⟩ := Classical.not_forall.1 hc
      obtain ⟨h1, h2⟩ := Classical.not_imp.1 hj
      have h3 := hm J0 j h1
      obtain ⟨J, a, b⟩ := still_one hm hM m j (by omega)
      exact ⟨J, by omega, b⟩
theorem still_ex {E : Nat → Nat → Int} {M : Int} : ∀ n J0, (∀ v, v < n → ∀ i k, i ≤ k → E i v ≤ E k v) → ∃ J, J0 ≤ J ∧ ∀ v, v < n → (∀ j, E j v ≤ M) → ∀ j, J ≤ j → E j v = E J v
  | 0, J0, _ => ⟨J0, Nat.le_refl _, fun v hv => absurd hv (Nat.not_lt_zero v)⟩
  | n + 1, J0, hm => by
    obtain ⟨J, a, b⟩ := still_ex (M := M) n J0 fun v hv => hm v (by omega)
    by_cases hb : ∀ j, E j n ≤ M
    · obtain ⟨J', a', b'⟩ := still_one (hm n (by omega)) hb (M - E J n).toNat J (by omega)
      refine ⟨J', by omega, fun v hv hM j hj => ?_⟩
      rcases Nat.lt_or_ge v n with h1 | h1
      · rw [b v h1 hM j (by omega), b v h1 hM J' (by omega)]
      · rw [show v = n by omega]; exact b' j hj
    · refine ⟨J, a, fun v hv hM j hj => ?_⟩
      rcases Nat.lt_or_ge v n with h1 | h1
      · exact b v h1 hM j hj
      · exact absurd (by rw [show v = n by omega] at hM; exact hM) hb
end Go.Proofs.Ytdbecmmeifdafaa.MV
