/- The statements' arguments, read as data. -/
import Derived.Test.YtdbecmmeifdafaaGWzmb
import Derived.Test.YtdbecmmeifdafaaGDzmb
import Derived.Deep.Slices
namespace Go.Proofs.Ytdbecmmeifdafaa
open Go.ChangeShapes Go.WideShapes Go.ChangeAt Go.RowKit Go.Deep Go.Joins
set_option linter.unusedVariables false
set_option linter.unusedSimpArgs false

theorem flatten_at {α : Type} {k : Nat} (hk : 0 < k) : ∀ {ls : List (List α)}, (∀ l ∈ ls, l.length = k) → ∀ i, ls.flatten[i]? = (ls[i / k]?).bind fun l => l[i % k]?
  | [], _, i => by simp
  | l :: ls, h, i => by
    have hl := h l (by simp)
    rw [List.flatten_cons]
    by_cases hi : i < k
    · rw [List.getElem?_append_left (by omega), Nat.div_eq_of_lt hi, Nat.mod_eq_of_lt hi]; rfl
    · rw [List.getElem?_append_right (by omega), hl, flatten_at hk (fun l hl => h l (by simp [hl]))]
      have e1 : i / k = (i - k) / k + 1 := by rw [← Nat.add_div_right _ hk, Nat.sub_add_cancel (by omega)]
      have e2 : i % k = (i - k) % k := by rw [← Nat.mod_eq_sub_mod (by omega)]
      rw [e1, e2, List.getElem?_cons_succ]
theorem flatten_len {α : Type} {k : Nat} : ∀ {ls : List (List α)}, (∀ l ∈ ls, l.length = k) → ls.flatten.length = ls.length * k
  | [], _ => by simp
  | l :: ls, h => by
    rw [List.flatten_cons, List.length_append, flatten_len (fun l hl => h l (by simp [hl])), h l (by simp), List.length_cons, Nat.add_mul]
    omega
theorem RpS_at {S : TypeId → Nat} {lo : Nat} {w : World} {ow : Nat → Option Pl} {ds : List D} {cs : List Value} (h : RpS S lo w ow ds cs) {i : Nat} {d : D} {c : Value} (hd : ds[i]? = some d) (hc : cs[i]? = some c) : Rp S lo w ow .sh d c := (RpS_iff h).2 i d c hd hc
theorem RpS_one {S : TypeId → Nat} {lo : Nat} {w : World} {ow : Nat → Option Pl} {d : D} {c : Value} (h : Rp S lo w ow .sh d c) : RpS S lo w ow [d] [c] := by simp only [RpS]; exact ⟨c, [], rfl, h, rfl⟩
def i64 (x : Int) : Prop := -9223372036854775808 ≤ x ∧ x ≤ 9223372036854775807
section
variable {H : Type} {enc : TypeId × Value → H} {W : World} {lo : Nat}
abbrev Tro (enc : TypeId × Value → H) (W : World) (fuel : Nat) (t : TypeId) (cs : List Value) (x : DataW H × List MemPlace) : Prop := DataW.trod enc Try.prog W 0 (fun _ => true) true fuel t cs = some x
abbrev RpN (lo : Nat) (W : World) (d : D) (v : Value) : Prop := Rp (sz tyT) lo W (fun _ => none) .sh d v
abbrev RpSN (lo : Nat) (W : World) (ds : List D) (cs : List Value) : Prop := RpS (sz tyT) lo W (fun _ => none) ds cs

theorem cells_at {w : World} {a : Addr} {n : Nat} {cs : List Value} (h : w.cells? 0 a n = some cs) (hn : n ≠ 0) : a.spot = none ∧ a.block < w.heap.size := by
  obtain ⟨_, h1, h2⟩ := World.cells?_some h
  have h3 : w.cell? (a.add 0) = some cs[0] := (h2 0 (by omega)).trans (List.getElem?_eq_getElem (by omega))
  have ha : a.add 0 = a := rfl
  rw [ha] at h3
  have hlt := World.block_lt_of_cell? w a h3
  refine ⟨?_, hlt⟩
  rcases hsp : a.spot with _ | s
  · rfl
  · exfalso
    unfold World.cell? at h3
    rw [hsp] at h3
    split at h3
    · simp at h3
    · cases h3
/-- A slice, opened: each of its elements by Q. -/
theorem open_S {t e : TypeId} {k : Nat} (ht : Try.prog.underlying t = some (.slice e)) (hk : 0 < k) (hS : sz tyT e = k) (hc : Try.prog.cellsOf e = k) {Q : List D → Prop}
    (hQ : ∀ (n : Nat) (cs : List Value) (y : DataW H × List MemPlace), Tro enc W n e cs y → ∃ ds, RpSN lo W ds cs ∧ Q ds) {fuel : Nat} {cs : List Value} {x : DataW H × List MemPlace} (h : Tro enc W fuel t cs x) :
    ∃ (v : Value) (dss : List (List D)), cs = [v] ∧ RpN lo W (.lst e dss.flatten) v ∧ dss.length ≤ 9223372036854775807 ∧ ∀ ds ∈ dss, Q ds ∧ ds.length = k := by
  rcases open_slice ht h with ⟨rfl, -⟩ | ⟨a, len, cap, m, n, Dt, Pl, rfl, -, hl, hm, hmm, -, hx⟩
  · exact ⟨_, [], rfl, (Rp_lst _ _).2 ⟨[], ⟨rfl, 0, by simp, none, 0, rfl, Nat.le_refl _, by unfold maxLen; omega, fun h => absurd rfl h⟩, fun i x u hx => by simp at hx⟩, by simp, fun ds h => by simp at h⟩
  simp only [if_true] at hmm
  subst hmm
  rw [hc] at hx
  obtain ⟨f, hf⟩ := choose_lt (α := List Value × List D) (p := fun i y => W.cells? 0 (a.add (i * k)) k = some y.1 ∧ RpSN lo W y.2 y.1 ∧ Q y.2) (fun i hi => by
    obtain ⟨cs', h1, h2⟩ := hx i hi
    obtain ⟨ds, h3, h4⟩ := hQ n cs' _ h2
    exact ⟨(cs', ds), h1, h3, h4⟩)
  have hlen : ∀ i, i < m → (f i).1.length = k ∧ (f i).2.length = k := fun i hi => by
    obtain ⟨h1, h2, h3⟩ := hf i hi
    obtain ⟨_, h4, _⟩ := World.cells?_some h1
    have := (RpS_iff h2).1
    exact ⟨h4, by omega⟩
  let dss := (List.range len).map fun i => (f i).2
  let vss := (List.range len).map fun i => (f i).1
  have hd : ∀ l ∈ dss, l.length = k := fun l hl' => by
    obtain ⟨i, hi, rfl⟩ := List.mem_map.1 hl'
    have := List.mem_range.1 hi
    exact (hlen i (by omega)).2
  have hv : ∀ l ∈ vss, l.length = k := fun l hl' => by
    obtain ⟨i, hi, rfl⟩ := List.mem_map.1 hl'
    have := List.mem_range.1 hi
    exact (hlen i (by omega)).1
  have hdl : dss.length = len := by simp [dss]
  have hvl : vss.length = len := by simp [vss]
  refine ⟨_, dss, rfl, (Rp_lst _ _).2 ⟨vss.flatten, ⟨by rw [flatten_len hd, flatten_len hv, hdl, hvl], len, by rw [flatten_len hd, hdl, hS], some a, m, rfl, hl, hm, fun h0 => ?_⟩, fun i d u hdi hui => ?_⟩, by rw [hdl]; unfold maxLen at hm; omega, fun ds hds => ?_⟩
  · have h1 := (hf 0 (by omega)).1
    rw [Nat.zero_mul] at h1
    have ha : a.add 0 = a := rfl
    rw [ha] at h1
    obtain ⟨hs, hlt⟩ := cells_at h1 (by omega)
    obtain ⟨b, o, s⟩ := a
    simp only at hs
    subst hs
    refine ⟨b, o, rfl, hlt, rfl, fun i u hu => ?_⟩
    rw [flatten_at hk hv] at hu
    have hik : i / k < len := by
      rcases Nat.lt_or_ge (i / k) len with h | h
      · exact h
      · rw [List.getElem?_eq_none (by rw [hvl]; exact h)] at hu; cases hu
    rw [List.getElem?_map, List.getElem?_range hik] at hu
    simp only [Option.map_some, Option.bind_some] at hu
    obtain ⟨_, _, h5⟩ := World.cells?_some (hf (i / k) (by omega)).1
    have := (h5 (i % k) (Nat.mod_lt _ hk)).trans hu
    rw [add_plain, add_plain] at this
    rw [show o + i / k * k + i % k = o + i from by have := Nat.div_add_mod' i k; omega] at this
    exact this
  · rw [flatten_at hk hd] at hdi
    rw [flatten_at hk hv] at hui
    have hik : i / k < len := by
      rcases Nat.lt_or_ge (i / k) len with h | h
      · exact h
      · rw [List.getElem?_eq_none (by rw [hvl]; exact h)] at hui; cases hui
    rw [List.getElem?_map, List.getElem?_range hik] at hui hdi
    simp only [Option.map_some, Option.bind_some] at hui hdi
    exact RpS_at (hf (i / k) (by omega)).2.1 hdi hui
  · refine ⟨?_, hd ds hds⟩
    obtain ⟨i, hi, rfl⟩ := List.mem_map.1 hds
    exact (hf i (by have := List.mem_range.1 hi; omega)).2.2
end
/-- The end of a law: it answers true. -/
theorem law_true {P : Program} {f : FuncId} {args : List VT} {W : World} {cargs : List Value} (h : Fn P tyT f args [.c (.bool true)]) (ha : ArgsR (sz tyT) W.heap.size W (fun _ => none) args cargs) : Calls P f cargs.toArray W (fun e w' => e = .returned (.bool true) ∧ Below W.heap.size W w') := by
  refine (h.2 W cargs ha).mono fun e w' hp => ?_
  obtain ⟨vs, ow', rfl, hb, -, -, hr⟩ := hp
  simp only [ResR, Rp] at hr
  obtain ⟨v, vs', rfl, rfl, rfl⟩ := hr
  exact ⟨rfl, hb⟩
end Go.Proofs.Ytdbecmmeifdafaa
