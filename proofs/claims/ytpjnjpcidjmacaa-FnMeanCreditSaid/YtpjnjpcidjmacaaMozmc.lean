/- the means of all vertices: both sides -/
import Derived.Test.YtpjnjpcidjmacaaMnzmc
namespace Go.Proofs.Ytpjnjpcidjmacaa
open Go.RowKit
set_option linter.unusedVariables false
set_option linter.unusedSimpArgs false

open MV (Gm)
theorem optB_1 (mx : Bool) (f : Nat → Int) : MV.optB mx f 1 = f 0 := rfl
theorem optB_up {mx : Bool} {f : Nat → Int} {k : Nat} (h : (mx = true ∧ f (k + 1) > MV.optB mx f (k + 1)) ∨ (mx = false ∧ f (k + 1) < MV.optB mx f (k + 1))) : MV.optB mx f (k + 2) = f (k + 1) := by
  rw [MV.optB_s, if_pos h]
theorem optB_no {mx : Bool} {f : Nat → Int} {k : Nat} (h : ¬ ((mx = true ∧ f (k + 1) > MV.optB mx f (k + 1)) ∨ (mx = false ∧ f (k + 1) < MV.optB mx f (k + 1)))) : MV.optB mx f (k + 2) = MV.optB mx f (k + 1) := by
  rw [MV.optB_s, if_neg h]
/-- The best so far, the first one taken ahead. -/
def bestK (w : Wt) (k v i : Nat) : Int := MV.optB (decide (gi w.a.owner v = 0)) (edgeV w k v) (max i 1)
theorem bestK_0 (w : Wt) (k v : Nat) : bestK w k v 0 = edgeV w k v 0 := rfl
theorem bestK_all {w : Wt} {k v : Nat} (h : 1 ≤ (gl w.a.next v).length) : bestK w k v (gl w.a.next v).length = (gmW w).pay (k + 1) v := by
  unfold bestK
  rw [pay_s, Nat.max_eq_left h]
theorem bestK_yes {w : Wt} {k v i : Nat} (hc : (gi w.a.owner v = 0 ∧ edgeV w k v i > bestK w k v i) ∨ (¬ gi w.a.owner v = 0 ∧ edgeV w k v i < bestK w k v i)) : bestK w k v (i + 1) = edgeV w k v i := by
  unfold bestK at hc ⊢
  cases i with
  | zero =>
    rw [show max 0 1 = 1 from rfl, optB_1] at hc
    omega
  | succ i =>
    rw [show max (i + 1) 1 = i + 1 from by omega] at hc
    rw [show max (i + 1 + 1) 1 = i + 2 from by omega]
    refine optB_up ?_
    by_cases h : gi w.a.owner v = 0
    · simp only [decide_eq_true h] at hc ⊢
      exact .inl ⟨trivial, by omega⟩
    · simp only [decide_eq_false h] at hc ⊢
      exact .inr ⟨trivial, by omega⟩
theorem bestK_no {w : Wt} {k v i : Nat} (hc : ¬ ((gi w.a.owner v = 0 ∧ edgeV w k v i > bestK w k v i) ∨ (¬ gi w.a.owner v = 0 ∧ edgeV w k v i < bestK w k v i))) : bestK w k v (i + 1) = bestK w k v i := by
  unfold bestK at hc ⊢
  cases i with
  | zero => rfl
  | succ i =>
    rw [show max (i + 1) 1 = i + 1 from by omega] at hc
    rw [show max (i + 1 + 1) 1 = i + 2 from by omega, show max (i + 1) 1 = i + 1 from by omega]
    refine optB_no fun h9 => hc ?_
    by_cases h : gi w.a.owner v = 0
    · simp only [decide_eq_true h] at h9 ⊢
      rcases h9 with h9 | h9
      · exact .inl ⟨h, h9.2⟩
      · cases h9.1
    · simp only [decide_eq_false h] at h9 ⊢
      rcases h9 with h9 | h9
      · cases h9.1
      · exact .inr ⟨h, h9.2⟩
theorem bestK_bd {w : Wt} (h : WMn w) {k v i : Nat} (hv : v < w.a.owner.length) (hi : i ≤ (gl w.a.next v).length) (hk : k ≤ 2048001) : -2048002000 ≤ bestK w k v i ∧ bestK w k v i ≤ 2048002000 := by
  have h1 := (h.sh.row v hv).2.1
  exact optB_bd (by omega) fun j hj => edge_bd h hv (by omega) hk
theorem set_keep {z : List Int} {v u : Nat} {x : Int} (h : u ≠ v) : gi (z.set v x) u = gi z u := by
  unfold gi
  rw [List.getD_eq_getElem?_getD, List.getElem?_set_ne (Ne.symm h), List.getD_eq_getElem?_getD]
theorem set_same {z : List Int} {v : Nat} {x : Int} (h : v < z.length) : gi (z.set v x) v = x := by
  unfold gi
  rw [List.getD_eq_getElem?_getD, List.getElem?_set_self h]
  rfl
/-- The numbers that rounding wants to know. -/
theorem near_val {w : Wt} (h : WMn w) {v : Nat} (hv : v < w.a.owner.length) (k : Nat) : NearM (gi (payL w k) v) k w.a.owner.length (mostW w) ((gmW w).val w.a.owner.length v).1 ((gmW w).val w.a.owner.length v).2 := by
  have h1 := Gm.val_ok h.game hv
  have h2 := Gm.val_ge h.game (by have := h.mW; omega) hv k
  have h3 := Gm.val_le h.game (by have := h.mW; omega) hv k
  have hn1 := h.sh.n1
  have hn8 := h.n8
  rw [payL_gi hv]
  exact ⟨by omega, by omega, h.mW.1, h.mW.2, h1.1, h1.2.1, by omega, by omega⟩
theorem steps_nat {w : Wt} (h : WMn w) : ∃ T : Nat, (T : Int) = 4 * (w.a.owner.length * w.a.owner.length * w.a.owner.length * mostW w) ∧ T ≤ 2048000 := by
  have hb := nW_bd (n := w.a.owner.length) (W := mostW w) (by have := h.sh.n1; omega) (by have := h.n8; omega) h.mW.1 h.mW.2
  refine ⟨(4 * (w.a.owner.length * w.a.owner.length * w.a.owner.length * mostW w) : Int).toNat, by omega, by omega⟩
end Go.Proofs.Ytpjnjpcidjmacaa
