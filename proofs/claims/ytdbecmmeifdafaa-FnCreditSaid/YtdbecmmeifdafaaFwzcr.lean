/- a weighted arena with a plan fixed: both sides -/
import Derived.Test.YtdbecmmeifdafaaFxzcr
import Derived.Test.YtdbecmmeifdafaaJ3zcr
namespace Go.Proofs.Ytdbecmmeifdafaa
open Go.RowKit
set_option linter.unusedVariables false
set_option linter.unusedSimpArgs false

theorem set_lt {xs : List Int} {n : Int} (h : isSetB xs n = true) : ∀ k, k < xs.length → ∀ j, j < k → gi xs j < gi xs k := by
  intro k
  induction k with
  | zero => intro _ j hj; omega
  | succ k ih =>
    intro hk j hj
    have h1 := allB_at h hk
    unfold riseAt at h1
    have h2 := (of_decide_eq_true h1).2.2
    have h3 : gi xs k < gi xs (k + 1) := by
      rcases h2 with h2 | h2
      · omega
      · exact h2
    by_cases e : j = k
    · subst e; exact h3
    · have := ih (by omega) j (by omega); omega
theorem stepC_at {w : Wt} (hw : weightedB w = true) {v k : Nat} (hv : v < w.a.owner.length) (hk : k < (gl w.a.next v).length) : stepC w v (gi (gl w.a.next v) k) = gi (gl w.cost v) k := by
  obtain ⟨hok, hn1, hn2, hn3, hn4, hrow⟩ := weighted_facts hw
  have hs := (arenaB_at hok hv).2.2.2.2
  have hf : fidx (gl w.a.next v) (gi (gl w.a.next v) k) = k := fidx_at hk (fun j hj e => by have := set_lt hs k hk j hj; omega) rfl
  have hh : hasB (gl w.a.next v) (gi (gl w.a.next v) k) = true := by unfold hasB; rw [hf]; exact decide_eq_true hk
  unfold stepC
  rw [Int.toNat_natCast, if_pos hh]
  unfold stepCost
  rw [hf]
end Go.Proofs.Ytdbecmmeifdafaa
