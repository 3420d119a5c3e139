/- parity games and scores: both sides -/
import Derived.Test.YtdbecmmeifdafaaGWzcr
import Derived.Test.YtdbecmmeifdafaaTParityzcr
import Derived.Test.YtdbecmmeifdafaaGDzcr
namespace Go.Proofs.Ytdbecmmeifdafaa
open Go.RowKit
set_option linter.unusedVariables false
set_option linter.unusedSimpArgs false

end Go.Proofs.Ytdbecmmeifdafaa

/- lists changed one by one: plain -/
namespace Go.Proofs.Ytdbecmmeifdafaa
open Go.RowKit
set_option linter.unusedVariables false
set_option linter.unusedSimpArgs false

/-- Numbers changed one by one, so far. -/
def mapI (g : Int → Int) (r : List Int) (k : Nat) : List Int := (r.take k).map g ++ r.drop k
theorem drop_gi' {c : List Int} {k : Nat} (h : k < c.length) : c.drop k = gi c k :: c.drop (k + 1) := by
  rw [List.drop_eq_getElem_cons h]
  congr 1
  unfold gi
  rw [List.getD_eq_getElem?_getD, List.getElem?_eq_getElem h]
  rfl
theorem mapI_0 (g : Int → Int) (r : List Int) : mapI g r 0 = r := by simp [mapI]
theorem mapI_all (g : Int → Int) (r : List Int) : mapI g r r.length = r.map g := by simp [mapI]
theorem mapI_len {g : Int → Int} {r : List Int} {k : Nat} (h : k ≤ r.length) : (mapI g r k).length = r.length := by simp [mapI]; omega
theorem mapI_set {g : Int → Int} {r : List Int} {k : Nat} (h : k < r.length) : (mapI g r k).set k (g (gi r k)) = mapI g r (k + 1) := by
  have hl : ((r.take k).map g).length = k := by simp; omega
  unfold mapI
  rw [List.set_append_right _ _ (by omega), hl, Nat.sub_self, drop_gi' h, List.set_cons_zero, List.take_add_one, gi_lt h]
  simp
end Go.Proofs.Ytdbecmmeifdafaa

/- copies of rows, of arenas and of weighted arenas; arenas with the owners exchanged: both sides -/
namespace Go.Proofs.Ytdbecmmeifdafaa
open Go.RowKit
set_option linter.unusedVariables false
set_option linter.unusedSimpArgs false

end Go.Proofs.Ytdbecmmeifdafaa

/- a parity game as a weighted arena: both sides -/
namespace Go.Proofs.Ytdbecmmeifdafaa
open Go.RowKit
set_option linter.unusedVariables false
set_option linter.unusedSimpArgs false

end Go.Proofs.Ytdbecmmeifdafaa
