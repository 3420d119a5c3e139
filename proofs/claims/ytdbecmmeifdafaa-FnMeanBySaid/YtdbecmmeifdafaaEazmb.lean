/- With fewer ways player 0 has no greater value; the plan by the values keeps them: plain. -/
import Derived.Test.YtdbecmmeifdafaaCizmb
import Derived.Test.YtdbecmmeifdafaaDszmb
import Derived.Test.YtdbecmmeifdafaaDuzmb
import Derived.Test.YtdbecmmeifdafaaMplzmb
import Derived.Test.YtdbecmmeifdafaaMbzmb
namespace Go.Proofs.Ytdbecmmeifdafaa
open Go.RowKit MV
set_option linter.unusedVariables false
set_option linter.unusedSimpArgs false

theorem few_pay {x w : Wt} (hx : WSh x) (hw : WSh w) (h : FewerW x w) : ∀ k v, v < w.a.owner.length → (gmW x).pay k v ≤ (gmW w).pay k v
  | 0, v, hv => Int.le_refl _
  | k + 1, v, hv => by
    have ho := h.own
    have hv' : v < x.a.owner.length := by rw [ho]; exact hv
    have dx := (gm_ok20 hx).deg v hv'
    have dw := (gm_ok20 hw).deg v hv
    have ih := few_pay hx hw h k
    rcases hw.own v hv with e | e
    · have e' : gi x.a.owner v = 0 := by rw [ho]; exact e
      obtain ⟨i, hi, e1⟩ := (Gm.pay_x (gm_mx0 e') dx k).1
      obtain ⟨j, hj, e2, e3⟩ := h.w0 v hv e i hi
      have h2 := (Gm.pay_x (gm_mx0 e) dw k).2 j hj
      have h3 := ih _ ((gm_ok20 hw).to v hv j hj)
      have e4 : (gmW x).to v i = (gmW w).to v j := e2
      have e5 : (gmW x).c v i = (gmW w).c v j := e3
      rw [e4, e5] at e1
      omega
    · have e' : gi x.a.owner v = 1 := by rw [ho]; exact e
      obtain ⟨j, hj, e1⟩ := (Gm.pay_n (gm_mx1 e) dw k).1
      obtain ⟨i, hi, e2, e3⟩ := h.w1 v hv e j hj
      have h2 := (Gm.pay_n (gm_mx1 e') dx k).2 i hi
      have h3 := ih _ ((gm_ok20 hw).to v hv j hj)
      have e4 : (gmW x).to v i = (gmW w).to v j := e2
      have e5 : (gmW x).c v i = (gmW w).c v j := e3
      rw [e4, e5] at h2
      omega
theorem lessF_self (f : Fr) : lessF f f = false := decide_eq_false (Int.lt_irrefl _)
theorem few_val {x w : Wt} (hx : WMn x) (hw : WMn w) (h : FewerW x w) {v : Nat} (hv : v < w.a.owner.length) : lessF (valF w v) (valF x v) = false := by
  have hv' : v < x.a.owner.length := by rw [h.own]; exact hv
  have hf := valF_ok hx hv'
  obtain ⟨M, hM⟩ := (val_iff hx (valF x v) hf.2.2.1 hv').1 (lessF_self _)
  refine (val_iff hw _ hf.2.2.1 hv).2 ⟨M, fun k => ?_⟩
  have h1 := hM k
  rw [scale_pay hx.sh _ (by omega) k v hv'] at h1
  rw [scale_pay hw.sh _ (by omega) k v hv]
  have := Int.mul_le_mul_of_nonneg_right (few_pay hx.sh hw.sh h k v hv) (show 0 ≤ (valF x v).den by omega)
  omega
theorem pot_step {q c p d m : Int} {k : Nat} {bu bv : Int} (h1 : -bu ≤ q * (p * d - k * m)) (h2 : bu ≤ bv + q * (c * d - m)) : -bv ≤ q * ((c + p) * d - ((k + 1 : Nat) : Int) * m) := by
  have e : q * ((c + p) * d - ((k + 1 : Nat) : Int) * m) = q * (c * d - m) + q * (p * d - k * m) := by
    rw [show ((k + 1 : Nat) : Int) = (k : Int) + 1 by omega, Int.add_mul, Int.add_mul, Int.one_mul, ← Int.mul_add]
    refine congrArg (q * ·) ?_
    show _ = _
    omega
  omega
/-- A potential that the player keeps bounds what the steps bring. -/
theorem pot_pay {x : Wt} (hx : WSh x) {f : Fr} (hf : 0 ≤ f.den) (S : Nat → Prop) (B : Nat → Int) {q : Int} (hq : 0 < q) (hB : ∀ v, v < x.a.owner.length → S v → 0 ≤ B v)
    (h0 : ∀ v, v < x.a.owner.length → S v → gi x.a.owner v = 0 → ∃ j, j < (gl x.a.next v).length ∧ S (toE x v j) ∧ B (toE x v j) ≤ B v + q * (coE x v j * f.den - f.num))
    (h1 : ∀ v, v < x.a.owner.length → S v → gi x.a.owner v = 1 → ∀ j, j < (gl x.a.next v).length → S (toE x v j) ∧ B (toE x v j) ≤ B v + q * (coE x v j * f.den - f.num)) :
    ∀ k v, v < x.a.owner.length → S v → -B v ≤ q * ((gmW x).pay k v * f.den - k * f.num)
  | 0, v, hv, hS => by
    have := hB v hv hS
    show -B v ≤ q * ((0 : Int) * f.den - ((0 : Nat) : Int) * f.num)
    rw [Int.zero_mul, Int.natCast_zero, Int.zero_mul, Int.sub_zero, Int.mul_zero]
    omega
  | k + 1, v, hv, hS => by
    have hg := gm_ok20 hx
    have hd := hg.deg v hv
    have ih := pot_pay hx hf S B hq hB h0 h1 k
    rcases hx.own v hv with e | e
    · obtain ⟨j, hj, s, hb⟩ := h0 v hv hS e
      have h2 := (Gm.pay_x (gm_mx0 e) hd k).2 j hj
      have h3 := pot_step (ih _ (hg.to v hv j hj) s) hb
      have h4 : (coE x v j + (gmW x).pay k (toE x v j)) * f.den - ((k + 1 : Nat) : Int) * f.num ≤ (gmW x).pay (k + 1) v * f.den - ((k + 1 : Nat) : Int) * f.num := by
        have := Int.mul_le_mul_of_nonneg_right (show coE x v j + (gmW x).pay k (toE x v j) ≤ (gmW x).pay (k + 1) v from h2) hf
        omega
      exact Int.le_trans h3 (Int.mul_le_mul_of_nonneg_left h4 (by omega))
    · obtain ⟨j, hj, e1⟩ := (Gm.pay_n (gm_mx1 e) hd k).1
      obtain ⟨s, hb⟩ := h1 v hv hS e j hj
      have h3 := pot_step (ih _ (hg.to v hv j hj) s) hb
      rw [e1]
      exact h3
/-- The credit of the scaled arena is finite exactly where the value is no less. -/
theorem fin_iff {w : Wt} (hw : WMn w) {f : Fr} (hf : 1 ≤ f.den) (hs : WSh (scaleW w f)) {c : List Int} (hL : Least (scaleW w f) (boundW (scaleW w f)) c) {v : Nat} (hv : v < w.a.owner.length) : gi c v ≤ boundW (scaleW w f) ↔ lessF (valF w v) f = false := by
  rw [val_iff hw f hf hv]
  constructor
  · intro h'
    exact ⟨gi c v, fun k => pay_low hs hs.bound.1 hL k v hv h'⟩
  · rintro ⟨M, hM⟩
    exact fin_of_pay hs (Int.le_refl _) hL hv hM
theorem val_eq {w x : Wt} (hw : WMn w) (hx : WMn x) {v u : Nat} (hv : v < w.a.owner.length) (hu : u < x.a.owner.length) (h : (valF w v).num * (valF x u).den = (valF x u).num * (valF w v).den) : valF w v = valF x u := by
  have a := Gm.val_ok (gm_ok20 hw.sh) hv
  have b := Gm.val_ok (gm_ok20 hx.sh) hu
  obtain ⟨g, g1, gN, gD⟩ := frOf_cross (p := ((gmW w).val w.a.owner.length v).1) (q := ((gmW w).val w.a.owner.length v).2) a.1
  obtain ⟨g', g1', gN', gD'⟩ := frOf_cross (p := ((gmW x).val x.a.owner.length u).1) (q := ((gmW x).val x.a.owner.length u).2) b.1
  refine frOf_eq a.1 b.1 ?_
  have e1 : frOf ((gmW w).val w.a.owner.length v).1 ((gmW w).val w.a.owner.length v).2 = valF w v := rfl
  have e2 : frOf ((gmW x).val x.a.owner.length u).1 ((gmW x).val x.a.owner.length u).2 = valF x u := rfl
  rw [e1] at gN gD
  rw [e2] at gN' gD'
  rw [gN, gD, gN', gD']
  have e3 : (valF w v).num * g * ((valF x u).den * g') = (valF w v).num * (valF x u).den * (g * g') := by
    rw [Int.mul_assoc, Int.mul_assoc, Int.mul_left_comm g]
  have e4 : (valF x u).num * g' * ((valF w v).den * g) = (valF x u).num * (valF w v).den * (g * g') := by
    rw [Int.mul_assoc, Int.mul_assoc, Int.mul_left_comm g', Int.mul_comm g' g]
  rw [e3, e4, h]
theorem val_same {w x : Wt} (hw : WMn w) (hx : WMn x) {v u : Nat} (hv : v < w.a.owner.length) (hu : u < x.a.owner.length) (h1 : lessF (valF w v) (valF x u) = false) (h2 : lessF (valF x u) (valF w v) = false) : valF w v = valF x u := by
  refine val_eq hw hx hv hu ?_
  unfold lessF at h1 h2
  have := of_decide_eq_false h1
  have := of_decide_eq_false h2
  omega
/-- 840 by a denominator up to 8. -/
def by840 (d : Int) : Int := 840 / d
theorem by840_mul {d : Int} (h : 1 ≤ d ∧ d ≤ 8) : by840 d * d = 840 ∧ 105 ≤ by840 d ∧ by840 d ≤ 840 := by
  obtain ⟨h1, h2⟩ := h
  have : d = 1 ∨ d = 2 ∨ d = 3 ∨ d = 4 ∨ d = 5 ∨ d = 6 ∨ d = 7 ∨ d = 8 := by omega
  rcases this with h | h | h | h | h | h | h | h <;> subst h <;> decide
/-- A fraction as a whole number of 840ths. -/
def n840 (f : Fr) : Int := f.num * by840 f.den
theorem n840_le {f g : Fr} (hf : 1 ≤ f.den ∧ f.den ≤ 8) (hg : 1 ≤ g.den ∧ g.den ≤ 8) : lessF f g = false ↔ n840 g ≤ n840 f := by
  have a := by840_mul hf
  have b := by840_mul hg
  unfold lessF n840
  rw [decide_eq_false_iff_not, Int.not_lt]
  have e1 : g.num * f.den * (by840 f.den * by840 g.den) = g.num * by840 g.den * 840 := by
    rw [← a.1, Int.mul_assoc, Int.mul_assoc, ← Int.mul_assoc f.den, Int.mul_comm f.den, Int.mul_comm (by840 f.den * f.den)]
  have e2 : f.num * g.den * (by840 f.den * by840 g.den) = f.num * by840 f.den * 840 := by
    rw [← b.1, Int.mul_assoc, Int.mul_assoc, Int.mul_left_comm g.den, Int.mul_comm g.den]
  have hp : 0 < by840 f.den * by840 g.den := Int.mul_pos (by omega) (by omega)
  constructor
  · intro h
    have := Int.mul_le_mul_of_nonneg_right h (Int.le_of_lt hp)
    rw [e1, e2] at this
    omega
  · intro h
    refine Int.le_of_mul_le_mul_right (a := by840 f.den * by840 g.den) ?_ hp
    rw [e1, e2]
    omega
end Go.Proofs.Ytdbecmmeifdafaa
