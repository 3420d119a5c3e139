/- arguments of type Weighted, read as data -/
import Derived.Test.YtfipgnbpkbnalaaGOzUD
import Derived.Test.YtfipgnbpkbnalaaGDzUD
namespace Go.Proofs.Ytfipgnbpkbnalaa
open Go.ChangeShapes Go.WideShapes Go.ChangeAt Go.RowKit Go.Deep Go.Joins
set_option linter.unusedVariables false
set_option linter.unusedSimpArgs false

/-- The numbers are numbers of 64 bits. -/
structure Wt.Rg (x : Wt) : Prop where
  a : x.a.Rg
  cost : RgII x.cost
section
variable {H : Type} {enc : TypeId × Value → H} {W : World} {lo : Nat}
set_option maxRecDepth 100000 in
theorem open_Wt {fuel : Nat} {cs : List Value} {x : DataW H × List MemPlace} (h : Tro enc W fuel 27 cs x) : ∃ a : Wt, RpSN lo W (dWt a) cs ∧ a.Rg ∧ a.Ln 9223372036854775807 := by
  obtain ⟨y0, y1, n, _, hl, h0, h1⟩ := trod_struct2 Try.underlying27 h
  rw [show Try.prog.cellsOf 27 = 3 from by kernel_rfl] at hl
  obtain ⟨c0, c1, c2, rfl⟩ := list3 hl
  rw [show Try.prog.cellsOf 25 = 2 from by kernel_rfl] at h0
  rw [show Try.prog.cellsOf 23 = 1 from by kernel_rfl] at h1
  simp at h0 h1
  obtain ⟨a0, r0, g0, l0⟩ := open_Ar (lo := lo) h0
  obtain ⟨v1, a1, e1, r1, g1, l1⟩ := open_II (lo := lo) h1
  simp only [List.cons.injEq, and_true] at e1
  subst e1
  exact ⟨⟨a0, a1⟩, RpS_app r0 (RpS_one r1), ⟨g0, g1⟩, ⟨l0, l1⟩⟩
set_option maxRecDepth 100000 in
theorem arg_Wt {base : Nat} {v : Value} {d : DataW H} {p : List MemPlace} (hv : Value.okWide Try.prog W .any base 27 v) (h : DataW.Trod enc Try.prog W 0 (fun _ => true) true 27 v d p) : ∃ a : Wt, ArgR (sz tyT) lo W (fun _ => none) (.agg (dWt a)) v ∧ a.Rg ∧ a.Ln 9223372036854775807 := by
  obtain ⟨cs, rfl, hsz⟩ := okWide_struct Try.underlying27 hv
  obtain ⟨fuel, hf⟩ := h
  obtain ⟨a, h1, h2⟩ := open_Wt (lo := lo) hf
  exact ⟨a, ⟨cs.toList, by simp, h1⟩, h2⟩
end
end Go.Proofs.Ytfipgnbpkbnalaa
