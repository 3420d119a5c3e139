/- visits to named vertices: both sides -/
import Derived.Test.YtbieekheapeopaaFczUF
import Derived.Test.YtbieekheapeopaaSozUF
namespace Go.Proofs.Ytbieekheapeopaa
open Go.RowKit
set_option linter.unusedVariables false
set_option linter.unusedSimpArgs false

theorem pw_nodup {xs : List Int} (h : xs.Pairwise (· < ·)) : xs.Nodup := h.imp fun h => by omega
theorem sort_strict {xs : List Int} (h : xs.Nodup) : (sortI xs).Pairwise (· < ·) := by
  have h1 := sortI_sorted xs
  have h2 : (sortI xs).Nodup := (sortI_perm xs).nodup_iff.2 h
  unfold List.Nodup at h2
  exact (h1.and h2).imp fun h => by omega
end Go.Proofs.Ytbieekheapeopaa
