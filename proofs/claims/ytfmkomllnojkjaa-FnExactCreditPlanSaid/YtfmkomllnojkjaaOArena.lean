/- arguments of type Arena, read as data -/
import Derived.Test.YtfmkomllnojkjaaO1
import Derived.Test.YtfmkomllnojkjaaTArena
namespace Go.Proofs.Ytfmkomllnojkjaa
open Go.ChangeShapes Go.WideShapes Go.ChangeAt Go.RowKit Go.Deep Go.Joins
set_option linter.unusedVariables false
set_option linter.unusedSimpArgs false

/-- The numbers are numbers of 64 bits. -/
structure Ar.Rg (x : Ar) : Prop where
  owner : RgI x.owner
  next : RgII x.next
section
variable {H : Type} {enc : TypeId × Value → H} {W : World} {lo : Nat}
set_option maxRecDepth 100000 in
theorem open_Ar {fuel : Nat} {cs : List Value} {x : DataW H × List MemPlace} (h : Tro enc W fuel 25 cs x) : ∃ a : Ar, RpSN lo W (dAr a) cs ∧ a.Rg ∧ a.Ln 9223372036854775807 := by
  obtain ⟨y0, y1, n, _, hl, h0, h1⟩ := trod_struct2 Try.underlying25 h
  rw [show Try.prog.cellsOf 25 = 2 from by kernel_rfl] at hl
  obtain ⟨c0, c1, rfl⟩ := list2 hl
  rw [show Try.prog.cellsOf 22 = 1 from by kernel_rfl] at h0
  rw [show Try.prog.cellsOf 23 = 1 from by kernel_rfl] at h1
  simp at h0 h1
  obtain ⟨v0, a0, e0, r0, g0, l0⟩ := open_I (lo := lo) h0
  simp only [List.cons.injEq, and_true] at e0
  subst e0
  obtain ⟨v1, a1, e1, r1, g1, l1⟩ := open_II (lo := lo) h1
  simp only [List.cons.injEq, and_true] at e1
  subst e1
  exact ⟨⟨a0, a1⟩, RpS_app (RpS_one r0) (RpS_one r1), ⟨g0, g1⟩, ⟨l0, l1⟩⟩
set_option maxRecDepth 100000 in
theorem arg_Ar {base : Nat} {v : Value} {d : DataW H} {p : List MemPlace} (hv : Value.okWide Try.prog W .any base 25 v) (h : DataW.Trod enc Try.prog W 0 (fun _ => true) true 25 v d p) : ∃ a : Ar, ArgR (sz tyT) lo W (fun _ => none) (.agg (dAr a)) v ∧ a.Rg ∧ a.Ln 9223372036854775807 := by
  obtain ⟨cs, rfl, hsz⟩ := okWide_struct Try.underlying25 hv
  obtain ⟨fuel, hf⟩ := h
  obtain ⟨a, h1, h2⟩ := open_Ar (lo := lo) hf
  exact ⟨a, ⟨cs.toList, by simp, h1⟩, h2⟩
end
end Go.Proofs.Ytfmkomllnojkjaa
