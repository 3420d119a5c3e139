/- values against a fraction; the means of a game: both sides -/
import Derived.Test.YtfipgnbpkbnalaaMtzUD
import Derived.Test.YtfipgnbpkbnalaaMuzUD
import Derived.Test.YtfipgnbpkbnalaaFkzUD
namespace Go.Proofs.Ytfipgnbpkbnalaa
open Go.RowKit
set_option linter.unusedVariables false
set_option linter.unusedSimpArgs false

open MV (Gm)
theorem wmn_of {w : Wt} (h : meanB w = true) : WMn w := by
  have hw := meanB_ok h
  obtain ⟨h1, h2, h3, h4, h5, h6⟩ := weighted_facts hw
  have h8 : w.cost.length ≤ 8 := by unfold meanB at h; rw [Bool.and_eq_true, decide_eq_true_eq] at h; exact h.2
  exact ⟨wsh_of hw, by omega, fun v hv j hj => (h6 v hv).2.2.2 j (by rw [(h6 v hv).1]; exact hj)⟩
theorem gf_means {w : Wt} {v : Nat} (h : v < w.a.owner.length) : gf (meansL w) v = valF w v := by
  unfold gf meansL
  rw [List.getD_eq_getElem?_getD, List.getElem?_map, List.getElem?_range h]
  rfl
theorem frOf_frac {p q : Int} (hq : 1 ≤ q ∧ q ≤ 8) (hp : -8000 ≤ p ∧ p ≤ 8000) : fracB (frOf p q) = true ∧ (-8000 ≤ (frOf p q).num ∧ (frOf p q).num ≤ 8000) ∧ 1 ≤ (frOf p q).den ∧ (frOf p q).den ≤ 8 := by
  have hg := gcd_pos' p hq.1
  obtain ⟨a, ha⟩ := Int.gcd_dvd_left (a := p) (b := q)
  obtain ⟨b, hb⟩ := Int.gcd_dvd_right (a := p) (b := q)
  have hg1 : Int.gcd a b = 1 := by
    have h1 : Int.gcd (Int.gcd p q * a) (Int.gcd p q * b) = Int.gcd p q * Int.gcd a b := by
      rw [Int.gcd_mul_left]; simp
    rw [← ha, ← hb] at h1
    have h2 : Int.gcd p q * 1 = Int.gcd p q * Int.gcd a b := by omega
    exact (Nat.eq_of_mul_eq_mul_left (by omega) h2).symm
  have e1 : p.tdiv (Int.gcd p q) = a := by
    conv => lhs; rw [ha]
    have h9 : Int.gcd (Int.gcd p q * a) q = Int.gcd p q := by rw [← ha]
    rw [h9]
    exact Int.mul_tdiv_cancel_left _ (by omega)
  have e2 : q.tdiv (Int.gcd p q) = b := by
    have h9 : (Int.gcd p q : Int) * b = q := hb.symm
    rw [← h9]
    have h10 : (Int.gcd p ((Int.gcd p q : Int) * b) : Int) = Int.gcd p q := by rw [h9]
    rw [h10]
    exact Int.mul_tdiv_cancel_left _ (by omega)
  have b1 := tdiv_bd (B := 8000) (Int.gcd p q) hp
  have b2 := tdiv_bd (B := 8) (n := q) (Int.gcd p q) (by omega)
  have hb0 : 1 ≤ b := by
    rcases Int.lt_or_le b 1 with h | h
    · have : (Int.gcd p q : Int) * b ≤ 0 := Int.mul_nonpos_of_nonneg_of_nonpos (by omega) (by omega)
      omega
    · exact h
  rw [e1] at b1
  rw [e2] at b2
  have e : frOf p q = ⟨a, b⟩ := by unfold frOf; rw [e1, e2]
  rw [e]
  refine ⟨?_, b1, hb0, b2.2⟩
  unfold fracB
  refine decide_eq_true ⟨⟨?_, ?_⟩, ⟨?_, ?_⟩, ?_⟩ <;> simp only <;> omega
theorem valF_ok {w : Wt} (h : WMn w) {v : Nat} (hv : v < w.a.owner.length) : fracB (valF w v) = true ∧ (-8000 ≤ (valF w v).num ∧ (valF w v).num ≤ 8000) ∧ 1 ≤ (valF w v).den ∧ (valF w v).den ≤ 8 := by
  have h1 := Gm.val_ok h.game hv
  have hm := h.mW
  have hn := h.n8
  have h2 : ((gmW w).val w.a.owner.length v).2 * mostW w ≤ 8 * 1000 := Int.mul_le_mul (by omega) hm.2 (by omega) (by omega)
  exact frOf_frac (by omega) (by omega)
end Go.Proofs.Ytfipgnbpkbnalaa
