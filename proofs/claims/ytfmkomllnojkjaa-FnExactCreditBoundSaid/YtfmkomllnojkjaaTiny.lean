/- Contracts of the smallest functions of the reference: l1In. -/
import Derived.Test.YtfmkomllnojkjaaRows
import Derived.Test.YtfmkomllnojkjaaBase
namespace Go.Proofs.Ytfmkomllnojkjaa
open Go.ChangeShapes Go.WideShapes Go.ChangeAt Go.RowKit

theorem l1In_any (x lo hi : Int) (w : World) :
    Calls Try.prog 105 #[.int .i64 x, .int .i64 lo, .int .i64 hi] w fun e w' => e = .returned (.bool (inB x lo hi)) ∧ w = w' := by
  by_cases h1 : lo ≤ x
  · have e : inB x lo hi = decide (x ≤ hi) := by unfold inB; simp [h1]
    rw [e]; clear e
    go_enter Try.func105, Try.ntmps105
    go_wp2
    go_ret
    exact ⟨rfl, rfl⟩
  · have e : inB x lo hi = false := by unfold inB; simp [h1]
    rw [e]; clear e
    go_enter Try.func105, Try.ntmps105
    go_wp2
    go_ret
    exact ⟨rfl, rfl⟩

end Go.Proofs.Ytfmkomllnojkjaa
