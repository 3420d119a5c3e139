/- Plans by dice are right. -/
import Derived.Test.YtdbecmmeifdafaaDpzmb
import Derived.Test.YtdbecmmeifdafaaPozmb
namespace Go.Proofs.Ytdbecmmeifdafaa
open Go.RowKit
set_option linter.unusedVariables false
set_option linter.unusedSimpArgs false
attribute [-push_cast] rm
theorem pL_at (code : List Int) (seed : Int) (a : Ar) (who : Int) (j : Nat) : ∀ v k, k < v → gi (pL code seed a who j v) k = if gi a.owner k = who then gi (gl a.next k) (dv code seed (pJ a who j k) (gl a.next k).length).toNat else -1
  | 0, k, h => absurd h (Nat.not_lt_zero k)
  | v + 1, k, h => by
    show gi (pL code seed a who j v ++ [_]) k = _
    have hl := pL_len code seed a who j v
    rcases Nat.lt_or_ge k v with h1 | h1
    · rw [gi_dL (by omega)]; exact pL_at code seed a who j v k h1
    · have e : k = v := by omega
      subst e
      have := gi_dR (pL code seed a who j k) (if gi a.owner k = who then gi (gl a.next k) (dv code seed (pJ a who j k) (gl a.next k).length).toNat else -1)
      rw [hl] at this
      exact this
theorem hasB_gi {xs : List Int} {k : Nat} (h : k < xs.length) : hasB xs (gi xs k) = true := by
  rw [hasB_iff]
  unfold gi
  rw [List.getD_eq_getElem?_getD, List.getElem?_eq_getElem h]
  exact List.getElem_mem _
theorem pL_ok {code : List Int} (hby : BytesOk code) (seed : Int) {a : Ar} (ha : arenaB a = true) {who : Int} (hw : 0 ≤ who ∧ who ≤ 1) (j : Nat) : planOkB a who (pL code seed a who j a.owner.length) = true := by
  rw [planOk_eq ha hw]
  refine planB_yes (pL_len _ _ _ _ _ _) fun v hv => planAtB_ok ?_
  rw [pL_len] at hv
  rw [pL_at _ _ _ _ _ _ _ hv]
  split
  · rename_i e
    have h1 := (arenaB_at ha hv).2.2.1
    have h2 := dv_rg hby seed (pJ a who j v) (n := ((gl a.next v).length : Nat)) (by omega)
    exact .inr ⟨e, hasB_gi (by omega)⟩
  · exact .inl rfl
end Go.Proofs.Ytdbecmmeifdafaa
