/- arguments: lists of pairs, read as data -/
import Derived.Test.YtbieekheapeopaaGOzUF
import Derived.Test.YtbieekheapeopaaPpzUF
namespace Go.Proofs.Ytbieekheapeopaa
open Go.ChangeShapes Go.WideShapes Go.ChangeAt Go.RowKit Go.Deep Go.Joins
set_option linter.unusedVariables false
set_option linter.unusedSimpArgs false

theorem flat_PS : ∀ (dss : List (List D)), (∀ ds ∈ dss, ∃ p : Pr, ds = dPr p ∧ p.Ln 9223372036854775807) → ∃ ps : List Pr, dss.flatten = dII (ilv ps) ∧ ps.length = dss.length ∧ ∀ p ∈ ps, p.Ln 9223372036854775807
  | [], _ => ⟨[], rfl, rfl, fun p hp => by simp at hp⟩
  | ds :: dss, h => by
    obtain ⟨p, rfl, hp⟩ := h ds (by simp)
    obtain ⟨ps, e, hl, hb⟩ := flat_PS dss (fun d hd => h d (by simp [hd]))
    refine ⟨p :: ps, by rw [List.flatten_cons, e]; rfl, by simp [hl], fun x hx => ?_⟩
    rcases List.mem_cons.1 hx with rfl | hx
    · exact hp
    · exact hb x hx
theorem cnt_PS {ps : List Pr} (h : PLn 1048576 ps) : sumL (ilv ps) ≤ 2199023255552 ∧ ps.length ≤ 1048576 := by
  have h1 : sumL (ilv ps) ≤ (ilv ps).length * 1048576 := sumL_le fun r hr => by
    unfold ilv at hr
    rw [List.mem_flatMap] at hr
    obtain ⟨p, hp, hr⟩ := hr
    have := h.2 p hp
    simp only [List.mem_cons, List.not_mem_nil, or_false] at hr
    rcases hr with rfl | rfl
    · exact this.ask
    · exact this.give
  rw [len_ilv] at h1
  have := h.1
  omega
section
variable {H : Type} {enc : TypeId × Value → H} {W : World} {lo : Nat}
set_option maxRecDepth 100000 in
theorem open_PS {fuel : Nat} {cs : List Value} {x : DataW H × List MemPlace} (h : Tro enc W fuel 43 cs x) : ∃ v ps, cs = [v] ∧ RpN lo W (.lst 105 (dII (ilv ps))) v ∧ PLn 9223372036854775807 ps := by
  obtain ⟨v, dss, rfl, h1, h2, h3⟩ := open_S (lo := lo) (k := 2) Try.underlying43 (by omega) sz_105 (by kernel_rfl) (Q := fun ds => ∃ p : Pr, ds = dPr p ∧ p.Ln 9223372036854775807) (fun n cs y hy => by
    obtain ⟨p, h1, -, h2⟩ := open_Pr (lo := lo) hy
    exact ⟨dPr p, h1, p, rfl, h2⟩) h
  obtain ⟨ps, e, hl, hb⟩ := flat_PS dss (fun ds hds => (h3 ds hds).1)
  rw [e] at h1
  exact ⟨v, ps, rfl, h1, by omega, hb⟩
set_option maxRecDepth 100000 in
theorem arg_PS {base : Nat} {v : Value} {d : DataW H} {p : List MemPlace} (hv : Value.okWide Try.prog W .any base 43 v) (h : DataW.Trod enc Try.prog W 0 (fun _ => true) true 43 v d p) : ∃ ps, ArgR (sz tyT) lo W (fun _ => none) (.c (.lst 105 (dII (ilv ps)))) v ∧ True ∧ PLn 9223372036854775807 ps := by
  obtain ⟨A, n, c, rfl⟩ := okWide_slice Try.underlying43 hv
  obtain ⟨fuel, hf⟩ := h
  obtain ⟨v', n', e, h1, h2⟩ := open_PS (lo := lo) hf
  simp only [Value.cells, List.cons.injEq, and_true] at e
  subst e
  exact ⟨n', h1, trivial, h2⟩
end
end Go.Proofs.Ytbieekheapeopaa
