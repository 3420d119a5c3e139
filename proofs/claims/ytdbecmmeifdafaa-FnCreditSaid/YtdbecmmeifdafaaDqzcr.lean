/- Plans by dice are right. -/
import Derived.Test.YtdbecmmeifdafaaDpzcr
import Derived.Test.YtdbecmmeifdafaaPozcr
namespace Go.Proofs.Ytdbecmmeifdafaa
open Go.RowKit
set_option linter.unusedVariables false
set_option linter.unusedSimpArgs false
attribute [-push_cast] rm
theorem pL_at (code : List Int) (seed : Int) (a : Ar) (who : Int) (j : Nat) : ∀ v k, k < v → gi (pL code seed a who j v) k = if gi a.owner k = who then gi (gl a.next k) (dv code seed (pJ a who j k) (gl a.next k).length).toNat else -1
  | 0, k, h => absurd h (Nat.not_lt_zero k)
  | v + 1, k, h => by
    show gi (pL code seed a who j v ++ [_]) k = _
    have hl := pL_len code seed a who j v
    rcases Nat.lt_or_ge k v with h1 | h1
    · rw [gi_dL (by omega)]; exact pL_at code seed a who j v k h1
    · have e : k = v := by omega
      subst e
      have := gi_dR (pL code seed a who j k) (if gi a.owner k = who then gi (gl a.next k) (dv code seed (pJ a who j k) (gl a.next k).length).toNat else -1)
      rw [hl] at this
      exact this
theorem hasB_gi {xs : List Int} {k : Nat} (h : k < xs.length) : hasB xs (gi xs k) = true := by
  rw [hasB_iff]
  unfold gi
  rw [List.getD_eq_getElem?_getD, List.getElem?_eq_getElem h]
  exact List.getElem_mem _
end Go.Proofs.Ytdbecmmeifdafaa
