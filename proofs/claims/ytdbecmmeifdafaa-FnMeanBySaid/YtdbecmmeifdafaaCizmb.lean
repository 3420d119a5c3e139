/- A value is at least a fraction exactly if the credit of the scaled arena is finite: plain. -/
import Derived.Test.YtdbecmmeifdafaaCzzmb
import Derived.Test.YtdbecmmeifdafaaMwzmb
import Derived.Test.YtdbecmmeifdafaaSczmb
namespace Go.Proofs.Ytdbecmmeifdafaa
open Go.RowKit MV
set_option linter.unusedVariables false
set_option linter.unusedSimpArgs false

theorem scale_to (w : Wt) (f : Fr) (v j : Nat) : (gmW (scaleW w f)).to v j = (gmW w).to v j := rfl
theorem scale_c {w : Wt} (hw : WSh w) (f : Fr) {v j : Nat} (hv : v < w.a.owner.length) (hj : j < (gmW w).deg v) : (gmW (scaleW w f)).c v j = (gmW w).c v j * f.den - f.num := by
  have h1 := (hw.row v hv).1
  have hj' : j < (gl w.cost v).length := by rw [h1]; exact hj
  show gi (gl (w.cost.map (List.map (scaleG f))) v) j = gi (gl w.cost v) j * f.den - f.num
  have e1 : gl (w.cost.map (List.map (scaleG f))) v = (gl w.cost v).map (scaleG f) := by
    unfold gl
    rw [List.getD_eq_getElem?_getD, List.getD_eq_getElem?_getD, List.getElem?_map]
    cases w.cost[v]? <;> rfl
  rw [e1]
  unfold gi
  rw [List.getD_eq_getElem?_getD, List.getD_eq_getElem?_getD, List.getElem?_map, List.getElem?_eq_getElem hj']
  rfl
theorem scale_pay {w : Wt} (hw : WSh w) (f : Fr) (hf : 0 ≤ f.den) : ∀ k v, v < w.a.owner.length → (gmW (scaleW w f)).pay k v = (gmW w).pay k v * f.den - k * f.num
  | 0, v, hv => by show (0 : Int) = 0 * f.den - ((0 : Nat) : Int) * f.num; simp
  | k + 1, v, hv => by
    have hg := gm_ok20 hw
    have hd := hg.deg v hv
    have hd' : 1 ≤ (gmW (scaleW w f)).deg v := hd
    have ih := scale_pay hw f hf k
    have hk : ((k + 1 : Nat) : Int) * f.num = k * f.num + f.num := by rw [show ((k + 1 : Nat) : Int) = (k : Int) + 1 by omega, Int.add_mul, Int.one_mul]
    have he : ∀ j, j < (gmW w).deg v → (gmW (scaleW w f)).c v j + (gmW (scaleW w f)).pay k ((gmW (scaleW w f)).to v j) = ((gmW w).c v j + (gmW w).pay k ((gmW w).to v j)) * f.den - ((k + 1 : Nat) : Int) * f.num := fun j hj => by
      rw [scale_c hw f hv hj, scale_to, ih _ (hg.to v hv j hj), hk, Int.add_mul]
      omega
    cases h : (gmW w).mx v
    · have h' : (gmW (scaleW w f)).mx v = false := h
      obtain ⟨⟨i, hi, e1⟩, a1⟩ := Gm.pay_n h hd k
      obtain ⟨⟨i', hi', e2⟩, a2⟩ := Gm.pay_n h' hd' k
      have b1 := a2 i hi
      rw [he i hi, ← e1] at b1
      rw [he i' hi'] at e2
      have b2 := Int.mul_le_mul_of_nonneg_right (a1 i' hi') hf
      omega
    · have h' : (gmW (scaleW w f)).mx v = true := h
      obtain ⟨⟨i, hi, e1⟩, a1⟩ := Gm.pay_x h hd k
      obtain ⟨⟨i', hi', e2⟩, a2⟩ := Gm.pay_x h' hd' k
      have b1 := a2 i hi
      rw [he i hi, ← e1] at b1
      rw [he i' hi'] at e2
      have b2 := Int.mul_le_mul_of_nonneg_right (a1 i' hi') hf
      omega
/-- A quotient in lowest terms, crosswise. -/
theorem frOf_cross {p q : Int} (hq : 1 ≤ q) : ∃ g : Int, 1 ≤ g ∧ p = (frOf p q).num * g ∧ q = (frOf p q).den * g := by
  refine ⟨Int.gcd p q, by have := gcd_pos' p hq; omega, ?_, ?_⟩
  · show p = p.tdiv (Int.gcd p q) * (Int.gcd p q)
    exact (Int.tdiv_mul_cancel (Int.gcd_dvd_left ..)).symm
  · show q = q.tdiv (Int.gcd p q) * (Int.gcd p q)
    exact (Int.tdiv_mul_cancel (Int.gcd_dvd_right ..)).symm
theorem val_iff {w : Wt} (hw : WMn w) (f : Fr) (hf : 1 ≤ f.den) {v : Nat} (hv : v < w.a.owner.length) : lessF (valF w v) f = false ↔ ∃ M, ∀ k, -M ≤ (gmW (scaleW w f)).pay k v := by
  have hg := gm_ok20 hw.sh
  have hok := Gm.val_ok hg hv
  have hge := fun k => Gm.val_ge hg (by decide) hv k
  have hle := fun k => Gm.val_le hg (by decide) hv k
  have hpy := fun k => scale_pay hw.sh f (by omega) k v hv
  obtain ⟨g, g1, gN, gD⟩ := frOf_cross (p := ((gmW w).val w.a.owner.length v).1) (q := ((gmW w).val w.a.owner.length v).2) hok.1
  have hD1 := hok.1
  have hC0 : 0 ≤ 2 * (((w.a.owner.length : Int) - 1) * (((gmW w).val w.a.owner.length v).2 * 20000)) := Int.mul_nonneg (by decide) (Int.mul_nonneg (by omega) (Int.mul_nonneg (by omega) (by decide)))
  generalize 2 * (((w.a.owner.length : Int) - 1) * (((gmW w).val w.a.owner.length v).2 * 20000)) = C at hge hle hC0
  have hvf : valF w v = frOf ((gmW w).val w.a.owner.length v).1 ((gmW w).val w.a.owner.length v).2 := rfl
  rw [← hvf] at gN gD
  generalize ((gmW w).val w.a.owner.length v).1 = N at *
  generalize ((gmW w).val w.a.owner.length v).2 = D at *
  have hcross : lessF (valF w v) f = false ↔ f.num * D ≤ N * f.den := by
    unfold lessF
    rw [decide_eq_false_iff_not, Int.not_lt]
    have e1 : f.num * D = f.num * (valF w v).den * g := by rw [gD, Int.mul_assoc]
    have e2 : N * f.den = (valF w v).num * f.den * g := by rw [gN, Int.mul_assoc, Int.mul_comm g, ← Int.mul_assoc]
    rw [e1, e2]
    exact ⟨fun h => Int.mul_le_mul_of_nonneg_right h (by omega), fun h => Int.le_of_mul_le_mul_right h (by omega)⟩
  rw [hcross]
  have hkey : ∀ k : Nat, D * ((gmW (scaleW w f)).pay k v) = (D * (gmW w).pay k v) * f.den - k * (f.num * D) := fun k => by
    rw [hpy k, Int.mul_sub, Int.mul_assoc D, Int.mul_comm f.num D, ← Int.mul_assoc (k : Int) D, Int.mul_comm (k : Int) D, Int.mul_assoc D]
  constructor
  · intro h
    refine ⟨C * f.den, fun k => ?_⟩
    have h1 := Int.mul_le_mul_of_nonneg_right (hge k) (show 0 ≤ f.den by omega)
    have h2 := hkey k
    have h3 : (k : Int) * (f.num * D) ≤ k * (N * f.den) := Int.mul_le_mul_of_nonneg_left h (by omega)
    rw [Int.sub_mul, Int.mul_assoc (k : Int)] at h1
    have h4 : -(C * f.den) ≤ D * ((gmW (scaleW w f)).pay k v) := by omega
    rcases Int.lt_or_le ((gmW (scaleW w f)).pay k v) (-(C * f.den)) with h5 | h5
    · exfalso
      have h6 : 0 ≤ C * f.den := Int.mul_nonneg hC0 (by omega)
      have h7 : D * ((gmW (scaleW w f)).pay k v) ≤ 1 * ((gmW (scaleW w f)).pay k v) := Int.mul_le_mul_of_nonpos_right hD1 (by omega)
      omega
    · exact h5
  · rintro ⟨M, hM⟩
    rcases Int.lt_or_le (N * f.den) (f.num * D) with h | h
    · exfalso
      have hk := hkey (C * f.den + D * M + 1).toNat
      have hl := Int.mul_le_mul_of_nonneg_right (hle (C * f.den + D * M + 1).toNat) (show 0 ≤ f.den by omega)
      have hm := Int.mul_le_mul_of_nonneg_left (hM (C * f.den + D * M + 1).toNat) (show 0 ≤ D by omega)
      rw [Int.add_mul, Int.mul_assoc (((C * f.den + D * M + 1).toNat : Nat) : Int)] at hl
      have h3 : ((C * f.den + D * M + 1).toNat : Int) * (N * f.den) ≤ ((C * f.den + D * M + 1).toNat : Int) * (f.num * D - 1) := Int.mul_le_mul_of_nonneg_left (by omega) (by omega)
      rw [Int.mul_sub, Int.mul_one] at h3
      rw [Int.mul_neg] at hm
      omega
    · exact h
end Go.Proofs.Ytdbecmmeifdafaa
