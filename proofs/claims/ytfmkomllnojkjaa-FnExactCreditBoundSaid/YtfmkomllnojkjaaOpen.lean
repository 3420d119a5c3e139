/- The statements' arguments opened: slices of numbers, rows of numbers, arenas, weighted arenas. -/
import Derived.Test.YtfmkomllnojkjaaHelp
import Derived.Deep.Matrix
namespace Go.Proofs.Ytfmkomllnojkjaa
open Go.ChangeShapes Go.WideShapes Go.ChangeAt Go.RowKit Go.Deep Go.Joins
set_option linter.unusedVariables false
set_option linter.unusedSimpArgs false

theorem wf_i64 {n : Int} (h : (Lit.int .i64 n).wf = true) : i64 n := bounds_i64 h
theorem gi_take {zs : List Int} {n k : Nat} (h : k < n) : gi (zs.take n) k = zs.getD k 0 := by
  unfold gi; rw [List.getD_eq_getElem?_getD, List.getD_eq_getElem?_getD, List.getElem?_take, if_pos h]

theorem list2 {α : Type} {l : List α} (h : l.length = 2) : ∃ a b, l = [a, b] := by
  match l, h with
  | [a, b], _ => exact ⟨a, b, rfl⟩

section
variable {H : Type} {enc : TypeId × Value → H} {W : World}

theorem cells_ri {w : World} {a : Addr} {len cap : Nat} {zs : List Int} (hl : len ≤ cap) (hm : cap ≤ maxLen) (hz : zs.length = cap) (hc : ∀ i, i < cap → w.cell? (a.add i) = some (.int .i64 (zs.getD i 0)))
    (hw : ∀ n ∈ zs, (Lit.int .i64 n).wf = true) : RI w (some a) len cap (zs.take len) := by
  unfold maxLen at hm
  refine ⟨by rw [List.length_take]; omega, hl, by omega, fun x hx => wf_i64 (hw x (List.mem_of_mem_take hx)), fun h0 => ?_⟩
  have h1 := hc 0 h0
  have ha : a.add 0 = a := rfl
  rw [ha] at h1
  have hlt := World.block_lt_of_cell? w a h1
  have hs : a.spot = none := by
    rcases hsp : a.spot with _ | s
    · rfl
    · exfalso
      unfold World.cell? at h1
      rw [hsp] at h1
      split at h1
      · simp at h1
      · cases h1
  obtain ⟨b, o, s⟩ := a
  simp only at hs
  subst hs
  refine ⟨b, o, rfl, hlt, fun k hk => ?_⟩
  rw [gi_take hk]
  have := hc k (by omega)
  rw [add_plain] at this
  exact this

theorem open_ri {fuel : Nat} {cs : List Value} {x : DataW H × List MemPlace} (h : DataW.trod enc Try.prog W 0 (fun _ => true) true fuel 22 cs = some x) : ∃ A n c xs, cs = [.slice A n c] ∧ RI W A n c xs := by
  rcases open_ints Try.underlying22 Try.underlying2 (by kernel_rfl) h with ⟨hcs, _⟩ | ⟨a, len, cap, zs, hcs, _, hl, hm, hz, _, hcell, hw⟩
  · exact ⟨_, _, _, _, hcs, RI.nil_⟩
  · simp only [if_true] at hz
    exact ⟨_, _, _, _, hcs, cells_ri hl hm hz (fun i hi => hcell i (by omega)) hw⟩

theorem open_rii {fuel : Nat} {cs : List Value} {x : DataW H × List MemPlace} (h : DataW.trod enc Try.prog W 0 (fun _ => true) true fuel 23 cs = some x) : ∃ A n c rows, cs = [.slice A n c] ∧ RII W A n c rows := by
  rcases open_int_rows Try.underlying23 Try.underlying22 Try.underlying2 (by kernel_rfl) (by kernel_rfl) h with ⟨hcs, _⟩ | ⟨a, len, cap, A, L, C, Z, hcs, _, hl, hm, _, hr⟩
  · exact ⟨_, _, _, _, hcs, RII.nil_⟩
  · refine ⟨_, _, _, (List.range len).map fun r => (Z r).take (L r), hcs, by simp, hl, by unfold maxLen at hm; omega, fun h0 => ?_⟩
    have h1 := (hr 0 h0).1
    have ha : a.add 0 = a := rfl
    rw [ha] at h1
    have hlt := World.block_lt_of_cell? W a h1
    have hs : a.spot = none := by
      rcases hsp : a.spot with _ | s
      · rfl
      · exfalso
        unfold World.cell? at h1
        rw [hsp] at h1
        split at h1
        · simp at h1
        · cases h1
    obtain ⟨b, o, s⟩ := a
    simp only at hs
    subst hs
    refine ⟨b, o, rfl, hlt, fun k hk => ?_⟩
    obtain ⟨e1, e2, e3, e4, e5, e6, e7⟩ := hr k (by omega)
    rw [add_plain] at e1
    refine ⟨A k, L k, C k, e1, ?_⟩
    have hgl : gl ((List.range len).map fun r => (Z r).take (L r)) k = (Z k).take (L k) := by
      unfold gl; rw [List.getD_eq_getElem?_getD, List.getElem?_map, List.getElem?_range hk]; rfl
    rw [hgl]
    rcases hA : A k with _ | a'
    · have h0 := e6 hA
      have : Z k = [] := List.eq_nil_of_length_eq_zero (by omega)
      rw [this, h0]
      have : L k = 0 := by omega
      rw [this]
      exact RI.nil_
    · exact cells_ri e2 e3 e4 (fun i hi => (e7 a' hA).2 i hi) e5

theorem open_arena {fuel : Nat} {cs : List Value} {x : DataW H × List MemPlace} (h : DataW.trod enc Try.prog W 0 (fun _ => true) true fuel 25 cs = some x) :
    ∃ (A B : Option Addr) (n c m d : Nat) (a : Ar), cs = [.slice A n c, .slice B m d] ∧ RI W A n c a.owner ∧ RII W B m d a.next := by
  obtain ⟨y0, y1, n, _, hl, h0, h1⟩ := trod_struct2 Try.underlying25 h
  rw [show Try.prog.cellsOf 25 = 2 from by kernel_rfl] at hl
  obtain ⟨c0, c1, rfl⟩ := list2 hl
  · rw [show Try.prog.cellsOf 22 = 1 from by kernel_rfl] at h0
    rw [show Try.prog.cellsOf 23 = 1 from by kernel_rfl] at h1
    simp at h0 h1
    obtain ⟨A, n, c, xs, e0, r0⟩ := open_ri h0
    obtain ⟨B, m, d, rows, e1, r1⟩ := open_rii h1
    simp only [List.cons.injEq, and_true] at e0 e1
    subst e0
    subst e1
    exact ⟨A, B, n, c, m, d, ⟨xs, rows⟩, rfl, r0, r1⟩

set_option maxRecDepth 100000 in
theorem open_weighted {base : Nat} {v : Value} {d : DataW H} {p : List MemPlace} (hv : Value.okWide Try.prog W .any base 27 v) (h : DataW.Trod enc Try.prog W 0 (fun _ => true) true 27 v d p) :
    ∃ (A B C : Option Addr) (n c m d l f : Nat) (a : Wt), v = .agg #[.slice A n c, .slice B m d, .slice C l f] ∧ RI W A n c a.a.owner ∧ RII W B m d a.a.next ∧ RII W C l f a.cost := by
  obtain ⟨cs, rfl, hsz⟩ := okWide_struct Try.underlying27 hv
  obtain ⟨fuel, hf⟩ := h
  obtain ⟨y0, y1, n, _, hl, h0, h1⟩ := trod_struct2 Try.underlying27 hf
  rw [show Try.prog.cellsOf 27 = 3 from by kernel_rfl] at hsz
  obtain ⟨c0, c1, c2, rfl⟩ := array3 hsz
  clear hv hl hsz
  rw [show Try.prog.cellsOf 25 = 2 from by kernel_rfl] at h0
  rw [show Try.prog.cellsOf 23 = 1 from by kernel_rfl] at h1
  simp [Value.cells] at h0 h1
  obtain ⟨A, B, n, c, m, d, a, e0, r0, r1⟩ := open_arena h0
  obtain ⟨C, l, f, rows, e1, r2⟩ := open_rii h1
  simp only [List.cons.injEq, and_true] at e0 e1
  obtain ⟨rfl, rfl⟩ := e0
  subst e1
  exact ⟨A, B, C, n, c, m, d, l, f, ⟨a, rows⟩, rfl, r0, r1, r2⟩
end
end Go.Proofs.Ytfmkomllnojkjaa
