/- arguments of type Frac, read as data -/
import Derived.Test.YtfipgnbpkbnalaaGOzUC
import Derived.Test.YtfipgnbpkbnalaaTFraczUC
namespace Go.Proofs.Ytfipgnbpkbnalaa
open Go.ChangeShapes Go.WideShapes Go.ChangeAt Go.RowKit Go.Deep Go.Joins
set_option linter.unusedVariables false
set_option linter.unusedSimpArgs false

/-- The numbers are numbers of 64 bits. -/
structure Fr.Rg (x : Fr) : Prop where
  num : i64 x.num
  den : i64 x.den
section
variable {H : Type} {enc : TypeId × Value → H} {W : World} {lo : Nat}
set_option maxRecDepth 100000 in
theorem open_Fr {fuel : Nat} {cs : List Value} {x : DataW H × List MemPlace} (h : Tro enc W fuel 41 cs x) : ∃ a : Fr, RpSN lo W (dFr a) cs ∧ a.Rg := by
  obtain ⟨y0, y1, n, _, hl, h0, h1⟩ := trod_struct2 Try.underlying41 h
  rw [show Try.prog.cellsOf 41 = 2 from by kernel_rfl] at hl
  obtain ⟨c0, c1, rfl⟩ := list2 hl
  rw [show Try.prog.cellsOf 2 = 1 from by kernel_rfl] at h0
  rw [show Try.prog.cellsOf 2 = 1 from by kernel_rfl] at h1
  simp at h0 h1
  obtain ⟨v0, a0, e0, r0, g0⟩ := open_n (lo := lo) h0
  simp only [List.cons.injEq, and_true] at e0
  subst e0
  obtain ⟨v1, a1, e1, r1, g1⟩ := open_n (lo := lo) h1
  simp only [List.cons.injEq, and_true] at e1
  subst e1
  exact ⟨⟨a0, a1⟩, RpS_app (RpS_one r0) (RpS_one r1), ⟨g0, g1⟩⟩
set_option maxRecDepth 100000 in
theorem arg_Fr {base : Nat} {v : Value} {d : DataW H} {p : List MemPlace} (hv : Value.okWide Try.prog W .any base 41 v) (h : DataW.Trod enc Try.prog W 0 (fun _ => true) true 41 v d p) : ∃ a : Fr, ArgR (sz tyT) lo W (fun _ => none) (.agg (dFr a)) v ∧ a.Rg := by
  obtain ⟨cs, rfl, hsz⟩ := okWide_struct Try.underlying41 hv
  obtain ⟨fuel, hf⟩ := h
  obtain ⟨a, h1, h2⟩ := open_Fr (lo := lo) hf
  exact ⟨a, ⟨cs.toList, by simp, h1⟩, h2⟩
end
end Go.Proofs.Ytfipgnbpkbnalaa
