/- The plan of the least credits needs no more than they: plain. -/
import Derived.Test.YtdbecmmeifdafaaDszmb
import Derived.Test.YtdbecmmeifdafaaPlzmb
namespace Go.Proofs.Ytdbecmmeifdafaa
open Go.RowKit
set_option linter.unusedVariables false
set_option linter.unusedSimpArgs false

/-- The first edge that meets what a credit asks: that is where the plan goes. -/
theorem pf_at {w : Wt} {s : List Int} {v : Nat} : ∀ (m j : Nat), (∃ i, j ≤ i ∧ i < j + m ∧ 0 ≤ gi s (toE w v i) ∧ gi s (toE w v i) - coE w v i ≤ gi s v) → ∃ i, j ≤ i ∧ i < j + m ∧ (0 ≤ gi s (toE w v i) ∧ gi s (toE w v i) - coE w v i ≤ gi s v) ∧ pf w s v j m = gi (gl w.a.next v) i
  | 0, j, ⟨i, h1, h2, _⟩ => by omega
  | m + 1, j, ⟨i, h1, h2, h3⟩ => by
    by_cases hc : 0 ≤ gi s (toE w v j) ∧ gi s (toE w v j) - coE w v j ≤ gi s v
    · exact ⟨j, Nat.le_refl _, by omega, hc, if_pos hc⟩
    · have hne : j ≠ i := fun e => hc (by rw [e]; exact h3)
      obtain ⟨k, a, b, c, d⟩ := pf_at m (j + 1) ⟨i, by omega, by omega, h3⟩
      exact ⟨k, by omega, by omega, c, (if_neg hc).trans d⟩
theorem fidx_set {xs : List Int} {n : Int} (h : isSetB xs n = true) {k : Nat} (hk : k < xs.length) : fidx xs (gi xs k) = k :=
  fidx_at hk (fun j hj e => by have := set_lt h k hk j hj; omega) rfl
theorem decB_map {b : Int} {c : List Int} {v : Nat} (h : v < c.length) : gi (c.map (decB b)) v = decB b (gi c v) := by
  unfold gi
  rw [List.getD_eq_getElem?_getD, List.getD_eq_getElem?_getD, List.getElem?_map, List.getElem?_eq_getElem h]
  rfl
/-- At a vertex of player 0 with a finite credit the plan takes an edge that meets it. -/
theorem plan_edge {w : Wt} (hw : WSh w) {c : List Int} (hL : Least w (boundW w) c) {v : Nat} (hv : v < w.a.owner.length) (e : gi w.a.owner v = 0) (hf : gi c v ≤ boundW w) :
    ∃ j, j < (gl w.a.next v).length ∧ Ed w (boundW w) c v j (gi c v) ∧ planAt w (c.map (decB (boundW w))) v = gi (gl w.a.next v) j := by
  have hr := hL.rg v hv
  have hb := hw.bound.1
  obtain ⟨j, hj, e1, e2⟩ := ((stepT_le hw hb hv hr.1 hf).1 (hL.pre v hv)).1 e
  have hto : ∀ i, i < (gl w.a.next v).length → toE w v i < w.a.owner.length := fun i hi => by have := hw.to v hv i hi; unfold toE; omega
  have hs : ∀ u, u < w.a.owner.length → gi (c.map (decB (boundW w))) u = decB (boundW w) (gi c u) := fun u hu => decB_map (by rw [hL.len]; exact hu)
  have hsv : gi (c.map (decB (boundW w))) v = gi c v := by rw [hs v hv]; unfold decB; rw [if_neg (by omega)]
  have hrt := hL.rg _ (hto j hj)
  have hst : gi (c.map (decB (boundW w))) (toE w v j) = gi c (toE w v j) := (hs _ (hto j hj)).trans (if_neg (by omega))
  obtain ⟨i, -, hi, ⟨a1, a2⟩, hp⟩ := pf_at (w := w) (s := c.map (decB (boundW w))) (v := v) (gl w.a.next v).length 0 ⟨j, by omega, by omega, by omega, by omega⟩
  have hi' : i < (gl w.a.next v).length := by omega
  have hsi := hs _ (hto i hi')
  have hfi : gi c (toE w v i) ≤ boundW w := by
    rw [hsi] at a1
    unfold decB at a1
    split at a1 <;> omega
  have hsj : gi (c.map (decB (boundW w))) (toE w v i) = gi c (toE w v i) := hsi.trans (if_neg (by omega))
  exact ⟨i, hi', ⟨hfi, by omega⟩, by rw [planAt_yes ⟨e, by omega⟩]; exact hp⟩
end Go.Proofs.Ytdbecmmeifdafaa
