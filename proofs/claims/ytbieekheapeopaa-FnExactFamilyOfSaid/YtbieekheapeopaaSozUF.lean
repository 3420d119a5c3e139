/- slices.Sort at the kind int64: a contract with one object lent, given back sorted. -/
import Derived.Sort.OwnSortedInts
import Derived.Test.YtbieekheapeopaaSlzUF
import Derived.Test.YtbieekheapeopaaGDzUF
namespace Go.Proofs.Ytbieekheapeopaa
open Go Go.RowKit Go.Sort
set_option linter.unusedVariables false
set_option linter.unusedSimpArgs false

def sortI (xs : List Int) : List Int := xs.mergeSort fun x y => decide (x ≤ y)
theorem sortI_len (xs : List Int) : (sortI xs).length = xs.length := List.length_mergeSort ..
theorem sortI_perm (xs : List Int) : (sortI xs).Perm xs := List.mergeSort_perm ..
theorem sortI_sorted (xs : List Int) : (sortI xs).Pairwise (· ≤ ·) := by
  have := List.pairwise_mergeSort (le := fun x y : Int => decide (x ≤ y)) (fun a b c h1 h2 => by simp at h1 h2 ⊢; omega) (fun a b => by simp; omega) xs
  refine this.imp fun h => by simpa using h
theorem sortI_nil : sortI [] = [] := by simp [sortI]
theorem sort_callable : Callable Try.prog 143 := ⟨_, Try.func143, by decide +kernel, rfl⟩
theorem dI_vals {S : TypeId → Nat} {lo : Nat} {w : World} {ow : Nat → Option Pl} : ∀ {xs : List Int} {m : Md} {k : Nat} {vs : List Value}, RpL S lo w ow m k (dI xs) vs → vs = xs.map (Value.int .i64)
  | [], m, k, vs, h => by simpa only [dI, List.map_nil, RpL] using h
  | x :: xs, m, k, vs, h => by
    simp only [dI, List.map_cons, RpL, Rp] at h
    obtain ⟨v, vs', rfl, rfl, h2⟩ := h
    rw [dI_vals (xs := xs) h2]
    rfl
set_option maxHeartbeats 1000000 in
theorem Sort_fn (xs : List Int) (hl : xs.length ≤ 1048576) : FnG Try.prog tyT 143 [.c (DI xs)] [0] [(0, 2, dI (sortI xs))] [] := by
  refine ⟨sort_callable, fun lo w ow cargs hlo how hargs => ?_⟩
  obtain ⟨h1, h2⟩ := hargs
  obtain ⟨v, rfl⟩ : ∃ v, cargs = [v] := by
    cases cargs with
    | nil => simp at h1
    | cons v vs => cases vs with
      | nil => exact ⟨v, rfl⟩
      | cons _ _ => simp at h1
  obtain ⟨cs, k1, k2, k3⟩ := h2 0 _ v rfl rfl
  have hv : Rp (sz tyT) lo w ow (.ex 0 []) (DI xs) v := by
    rcases k3 with ⟨d, c, e1, rfl, rfl⟩ | ⟨ds, e1, -⟩ | ⟨f, ds, e1, -⟩
    · exact k2 0 _ _ rfl rfl
    · cases e1
    · cases e1
  simp only [DI, Rp] at hv
  obtain ⟨vs, ⟨q1, n, q2, q3, q4⟩, q5⟩ := hv
  have hs1 : sz tyT 2 = 1 := rfl
  have hvs := dI_vals q5
  rw [len_dI, hs1, Nat.mul_one] at q2
  subst q2
  rw [hs1] at q3
  have hh : hdArgs [v] 0 = v ∨ True := .inr trivial
  rcases q3.2 with ⟨rfl, h0⟩ | ⟨g, cap, cur, rfl, hg, hb, hc1, hc2, hc3, htake⟩
  · have hx : xs = [] := List.eq_nil_of_length_eq_zero h0
    subst hx
    refine (AnyG.slices_Sort_int_none SortLaid none 0 w).mono fun e w' ⟨he, hw⟩ => ?_
    subst hw; subst he
    refine ⟨[], fun b => none, rfl, Keep.start _, fun b _ _ => rfl, fun b p h => (by cases h), by simp [ResR], fun x hx => ?_⟩
    simp only [List.mem_singleton] at hx
    subst hx
    simp only [sortI_nil, show dI ([] : List Int) = [] from rfl]
    exact Rp_empty _ _ _
  · rw [hvs] at htake q3
    have hlt : g < w.heap.size := (Array.getElem?_eq_some_iff.1 hb).1
    rw [Nat.mul_one] at htake
    have hH := holds_of_blockI hb htake
    have hsl := sortI_len xs
    refine (AnyG.slices_Sort_int SortLaid g 0 cap xs w hH hlt (by omega)).mono fun e w' ⟨he, n, os, hw⟩ => ?_
    subst he
    have hgr : w.grownBy w' (some g) := by rw [hw]; exact grownBy_sortedI _
    have hown := ownsRow_sortedI (base := lo) (n := n) (os := os) (ts := sortI xs) hsl hg hb hc1 hc2 hc3
    rw [show (grow (putRow (Value.int .i64) (Sort.ahead w n) g 0 (sortI xs).toArray) os) = w' from hw.symm] at hown
    have hog := q4 g rfl
    refine ⟨[], fun b => match ow b with | some (.root d q) => if d = 0 then some (.root (outId 0) q) else none | _ => none, rfl, ⟨hgr.os, hgr.tape, hgr.output, hgr.size, fun b hb' hk => hgr.block b hb' (fun e => ?_)⟩, fun b _ h => by simp only [h], fun b p h => ?_, by simp [ResR], fun x hx => ?_⟩
    · simp only [Option.some.injEq] at e
      subst e
      simp only at hk
      rw [hog] at hk; cases hk
    · simp only at h
      split at h
      · rename_i d q ho
        split at h
        · cases h
          have := how b _ ho
          exact ⟨Nat.lt_of_lt_of_le this.1 hgr.size, this.2.1, _, _, rfl⟩
        · cases h
      · cases h
    · simp only [List.mem_singleton] at hx
      subst hx
      simp only
      refine (Rp_lst _ _).2 ⟨(sortI xs).map (Value.int .i64), ⟨by simp [len_dI], xs.length, by rw [len_dI, hs1, hsl, Nat.mul_one], ?_⟩, fun i x u hx hu => ?_⟩
      · simp only
        rw [hs1]
        exact ⟨hown, fun b hb' => by
          have : b = g := by simp [hdArgs, Value.ownBlock] at hb'; exact hb'.symm
          subst this
          simp only [hog, if_true]⟩
      · simp only [dI, List.getElem?_map] at hx hu
        cases hk : (sortI xs)[i]? with
        | none => rw [hk] at hx; cases hx
        | some y => rw [hk] at hx hu; cases hx; cases hu; simp only [Rp]
end Go.Proofs.Ytbieekheapeopaa
