/- arguments of type Memory, read as data -/
import Derived.Test.YtaekncnlhkammaaGO
import Derived.Test.YtaekncnlhkammaaTMemory
namespace Go.Proofs.Ytaekncnlhkammaa
open Go.ChangeShapes Go.WideShapes Go.ChangeAt Go.RowKit Go.Deep Go.Joins
set_option linter.unusedVariables false
set_option linter.unusedSimpArgs false

/-- The numbers are numbers of 64 bits. -/
structure Me.Rg (x : Me) : Prop where
  next : RgII x.next
  choice : RgII x.choice
section
variable {H : Type} {enc : TypeId × Value → H} {W : World} {lo : Nat}
set_option maxRecDepth 100000 in
theorem open_Me {fuel : Nat} {cs : List Value} {x : DataW H × List MemPlace} (h : Tro enc W fuel 65 cs x) : ∃ a : Me, RpSN lo W (dMe a) cs ∧ a.Rg ∧ a.Ln 9223372036854775807 := by
  obtain ⟨y0, y1, n, _, hl, h0, h1⟩ := trod_struct2 Try.underlying65 h
  rw [show Try.prog.cellsOf 65 = 2 from by kernel_rfl] at hl
  obtain ⟨c0, c1, rfl⟩ := list2 hl
  rw [show Try.prog.cellsOf 23 = 1 from by kernel_rfl] at h0
  rw [show Try.prog.cellsOf 23 = 1 from by kernel_rfl] at h1
  simp at h0 h1
  obtain ⟨v0, a0, e0, r0, g0, l0⟩ := open_II (lo := lo) h0
  simp only [List.cons.injEq, and_true] at e0
  subst e0
  obtain ⟨v1, a1, e1, r1, g1, l1⟩ := open_II (lo := lo) h1
  simp only [List.cons.injEq, and_true] at e1
  subst e1
  exact ⟨⟨a0, a1⟩, RpS_app (RpS_one r0) (RpS_one r1), ⟨g0, g1⟩, ⟨l0, l1⟩⟩
set_option maxRecDepth 100000 in
theorem arg_Me {base : Nat} {v : Value} {d : DataW H} {p : List MemPlace} (hv : Value.okWide Try.prog W .any base 65 v) (h : DataW.Trod enc Try.prog W 0 (fun _ => true) true 65 v d p) : ∃ a : Me, ArgR (sz tyT) lo W (fun _ => none) (.agg (dMe a)) v ∧ a.Rg ∧ a.Ln 9223372036854775807 := by
  obtain ⟨cs, rfl, hsz⟩ := okWide_struct Try.underlying65 hv
  obtain ⟨fuel, hf⟩ := h
  obtain ⟨a, h1, h2⟩ := open_Me (lo := lo) hf
  exact ⟨a, ⟨cs.toList, by simp, h1⟩, h2⟩
end
end Go.Proofs.Ytaekncnlhkammaa
