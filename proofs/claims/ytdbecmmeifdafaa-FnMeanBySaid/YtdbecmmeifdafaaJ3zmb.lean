/- a box's objects come home, but for some -/

import Derived.Test.YtdbecmmeifdafaaGDzmb
namespace Go.Proofs.Ytdbecmmeifdafaa
open Go Go.RowKit
set_option linter.unusedVariables false
def St.settleBA (al : List Nat) (ks : List CK) (b : Nat) (st : St) : St :=
  match lk st.b b with
  | none => st
  | some cells =>
    match lk (homL al ks st (home b 0) [] cells).1.b b with
    | none => st
    | some cells' => if cells'.length = (homL al ks st (home b 0) [] cells).2.length then (homL al ks st (home b 0) [] cells).1.setB b (homL al ks st (home b 0) [] cells).2 else st
theorem awp_settleBA {P : Program} {τ : Ty} (al : List Nat) (ks : List CK) (b : Nat) {c : Code} {Q : Exit → St → Prop} {st : St} (h : awp P τ c Q (st.settleBA al ks b)) : awp P τ c Q st := by
  unfold St.settleBA at h
  split at h
  · exact h
  · rename_i cells hl
    split at h
    · exact h
    · rename_i cells' hl'
      split at h
      · rename_i hlen
        intro lo w0 a w hr
        obtain ⟨ow, hd, bk, hrr⟩ := hr
        obtain ⟨cs, ty, g1, g2, g3⟩ := hrr.box b cells hl
        obtain ⟨ow1, hd1, r1, r2⟩ := homL_sound al ks st ow hd (home b 0) [] cells [] cs hrr (by simp [AvRL]) g3
        obtain ⟨cs0, ty0, k1, k2, k3⟩ := r1.box b cells' hl'
        rw [List.nil_append] at r2
        have e0 : cs0 = cs := by
          rw [g1] at k1
          simp only [Option.some.injEq, Obj.cells.injEq] at k1
          have := k1.1
          simpa using this.symm
        subst e0
        have hrel := RelC_setB r1 hl' k1 (i := 0) (by omega) k3 r2
        rw [lay_all rfl, lay_all hlen.symm, setRow_self w _ _ _ _ k1] at hrel
        exact h lo w0 a w ⟨ow1, hd1, bk, hrel⟩
      · exact h
attribute [push_cast] St.settleBA
end Go.Proofs.Ytdbecmmeifdafaa
