/- A row of bytes as an argument, read as data. -/
import Derived.Test.YtdbecmmeifdafaaGOzmb
import Derived.Test.YtdbecmmeifdafaaDczmb
namespace Go.Proofs.Ytdbecmmeifdafaa
open Go.ChangeShapes Go.WideShapes Go.ChangeAt Go.RowKit Go.Deep Go.Joins
set_option linter.unusedVariables false
set_option linter.unusedSimpArgs false

section
variable {H : Type} {enc : TypeId × Value → H} {W : World} {lo : Nat}
theorem open_b {fuel : Nat} {cs : List Value} {x : DataW H × List MemPlace} (h : Tro enc W fuel 5 cs x) : ∃ v n, cs = [v] ∧ RpN lo W (.int .u8 n) v ∧ (0 ≤ n ∧ n ≤ 255) := by
  obtain ⟨n, rfl, -, hw⟩ := DataW.trod_int Try.underlying5 h
  exact ⟨_, n, rfl, by simp only [Rp], by simp only [Lit.wf, Bool.and_eq_true, decide_eq_true_eq] at hw; exact hw⟩
theorem flat_U : ∀ (dss : List (List D)), (∀ ds ∈ dss, ∃ n, ds = [.int .u8 n] ∧ (0 ≤ n ∧ n ≤ 255)) → ∃ xs : List Int, dss.flatten = dU xs ∧ (∀ x ∈ xs, 0 ≤ x ∧ x ≤ 255) ∧ xs.length = dss.length
  | [], _ => ⟨[], rfl, fun x hx => by simp at hx, rfl⟩
  | ds :: dss, h => by
    obtain ⟨n, rfl, hn⟩ := h ds (by simp)
    obtain ⟨xs, e, hr, hl⟩ := flat_U dss (fun d hd => h d (by simp [hd]))
    refine ⟨n :: xs, by rw [List.flatten_cons, e]; rfl, fun x hx => ?_, by simp [hl]⟩
    rcases List.mem_cons.1 hx with rfl | hx
    · exact hn
    · exact hr x hx
set_option maxRecDepth 100000 in
theorem arg_U {base : Nat} {v : Value} {d : DataW H} {p : List MemPlace} (hv : Value.okWide Try.prog W .any base 22 v) (h : DataW.Trod enc Try.prog W 0 (fun _ => true) true 22 v d p) : ∃ xs, ArgR (sz tyT) lo W (fun _ => none) (.c (.lst 5 (dU xs))) v ∧ (∀ k, k < xs.length → 0 ≤ gi xs k ∧ gi xs k ≤ 255) ∧ xs.length ≤ 9223372036854775807 := by
  obtain ⟨A, n, c, rfl⟩ := okWide_slice Try.underlying22 hv
  obtain ⟨fuel, hf⟩ := h
  obtain ⟨v', dss, e, h1, h2, h3⟩ := open_S (lo := lo) (k := 1) Try.underlying22 (by omega) sz_5 (by kernel_rfl) (Q := fun ds => ∃ n, ds = [.int .u8 n] ∧ (0 ≤ n ∧ n ≤ 255)) (fun n cs y hy => by
    obtain ⟨v, n, rfl, h1, h2⟩ := open_b (lo := lo) hy
    exact ⟨[.int .u8 n], RpS_one h1, n, rfl, h2⟩) hf
  obtain ⟨xs, e2, hr, hl⟩ := flat_U dss (fun ds hds => (h3 ds hds).1)
  rw [e2] at h1
  simp only [Value.cells, List.cons.injEq, and_true] at e
  subst e
  refine ⟨xs, h1, fun k hk => hr _ ?_, by omega⟩
  unfold gi
  rw [List.getD_eq_getElem?_getD, List.getElem?_eq_getElem hk]
  exact List.getElem_mem _
end
end Go.Proofs.Ytdbecmmeifdafaa
