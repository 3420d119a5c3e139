/- the laws' helpers of lists of fractions -/
import Derived.Test.YtdbecmmeifdafaaTFraczmb
import Derived.Test.YtdbecmmeifdafaaGDzmb
namespace Go.Proofs.Ytdbecmmeifdafaa
open Go.RowKit
set_option linter.unusedVariables false
set_option linter.unusedSimpArgs false

@[reducible] def dFrs (fs : List Fr) : List D := fs.flatMap dFr
theorem m2d (n : Nat) : n * 2 / 2 = n := by omega
theorem len_dFrs (fs : List Fr) : (dFrs fs).length = fs.length * 2 := by
  induction fs with
  | nil => rfl
  | cons x fs ih => simp only [dFrs, List.flatMap_cons, List.length_append, List.length_cons] at *; rw [ih]; simp only [dFr, List.length_cons, List.length_nil]; omega
theorem app_dFrs (fs : List Fr) (x y : Int) : dFrs fs ++ [D.int .i64 x, D.int .i64 y] = dFrs (fs ++ [⟨x, y⟩]) := by simp [dFrs, dFr]
theorem take_dFrs (fs : List Fr) (n : Nat) : (dFrs fs).take (n * 2) = dFrs (fs.take n) := by
  induction fs generalizing n with
  | nil => simp [dFrs]
  | cons x fs ih =>
    cases n with
    | zero => simp [dFrs]
    | succ n =>
      have := ih n
      simp only [dFrs, List.flatMap_cons, List.take_succ_cons] at *
      rw [show (n + 1) * 2 = n * 2 + 1 + 1 from by omega]
      simp only [dFr, List.cons_append, List.nil_append, List.take_succ_cons]
      rw [this]
attribute [push_cast] m2d len_dFrs app_dFrs take_dFrs
def gf (fs : List Fr) (k : Nat) : Fr := fs.getD k ⟨0, 0⟩
theorem dFrs_at0 (fs : List Fr) (k : Nat) : (dFrs fs)[k * 2]? = if k < fs.length then some (.int .i64 (gf fs k).num) else none := by
  induction fs generalizing k with
  | nil => rfl
  | cons x fs ih =>
    cases k with
    | zero => rfl
    | succ k =>
      rw [show (k + 1) * 2 = k * 2 + 1 + 1 from by omega]
      simp only [dFrs, List.flatMap_cons, dFr, List.cons_append, List.nil_append, List.getElem?_cons_succ, List.length_cons]
      have := ih k
      simp only [dFrs] at this
      rw [this]
      simp only [gf, List.getD_cons_succ]
      split <;> split <;> first | rfl | omega
theorem dFrs_at1 (fs : List Fr) (k : Nat) : (dFrs fs)[k * 2 + 1]? = if k < fs.length then some (.int .i64 (gf fs k).den) else none := by
  induction fs generalizing k with
  | nil => rfl
  | cons x fs ih =>
    cases k with
    | zero => rfl
    | succ k =>
      rw [show (k + 1) * 2 + 1 = k * 2 + 1 + 1 + 1 from by omega]
      simp only [dFrs, List.flatMap_cons, dFr, List.cons_append, List.nil_append, List.getElem?_cons_succ, List.length_cons]
      have := ih k
      simp only [dFrs] at this
      rw [this]
      simp only [gf, List.getD_cons_succ]
      split <;> split <;> first | rfl | omega
theorem getI_dFrs0 (fs : List Fr) (k : Nat) : getI (dFrs fs) (k * 2) = (gf fs k).num := by
  unfold getI
  rw [dFrs_at0]
  split
  · rename_i h; split at h <;> cases h; rfl
  · rename_i h
    split at h
    · rename_i h2; exact absurd rfl (h _ _)
    · rename_i h2; unfold gf; rw [List.getD_eq_getElem?_getD, List.getElem?_eq_none (by omega)]; rfl
theorem getI_dFrs1 (fs : List Fr) (k : Nat) : getI (dFrs fs) (k * 2 + 1) = (gf fs k).den := by
  unfold getI
  rw [dFrs_at1]
  split
  · rename_i h; split at h <;> cases h; rfl
  · rename_i h
    split at h
    · rename_i h2; exact absurd rfl (h _ _)
    · rename_i h2; unfold gf; rw [List.getD_eq_getElem?_getD, List.getElem?_eq_none (by omega)]; rfl
theorem HasC_dFrs0 (fs : List Fr) (k : Nat) : HasC (.int .i64) (dFrs fs) (k * 2) = (k < fs.length) := by
  unfold HasC
  rw [dFrs_at0]
  apply propext
  constructor
  · rintro ⟨n, h⟩; split at h; assumption; cases h
  · intro h; rw [if_pos h]; exact ⟨_, rfl⟩
theorem HasC_dFrs1 (fs : List Fr) (k : Nat) : HasC (.int .i64) (dFrs fs) (k * 2 + 1) = (k < fs.length) := by
  unfold HasC
  rw [dFrs_at1]
  apply propext
  constructor
  · rintro ⟨n, h⟩; split at h; assumption; cases h
  · intro h; rw [if_pos h]; exact ⟨_, rfl⟩
attribute [push_cast] getI_dFrs0 getI_dFrs1 HasC_dFrs0 HasC_dFrs1
theorem set_dFrs0 (fs : List Fr) (k : Nat) (n : Int) : (dFrs fs).set (k * 2) (.int .i64 n) = dFrs (fs.set k ⟨n, (gf fs k).den⟩) := by
  induction fs generalizing k with
  | nil => simp [dFrs]
  | cons x fs ih =>
    cases k with
    | zero => simp [dFrs, dFr, gf]
    | succ k =>
      have := ih k
      rw [show (k + 1) * 2 = k * 2 + 1 + 1 from by omega]
      simp only [dFrs, List.flatMap_cons, dFr, List.cons_append, List.nil_append, List.set_cons_succ] at *
      rw [this]
      simp only [gf, List.getD_cons_succ]
theorem set_dFrs1 (fs : List Fr) (k : Nat) (n : Int) : (dFrs fs).set (k * 2 + 1) (.int .i64 n) = dFrs (fs.set k ⟨(gf fs k).num, n⟩) := by
  induction fs generalizing k with
  | nil => simp [dFrs]
  | cons x fs ih =>
    cases k with
    | zero => simp [dFrs, dFr, gf]
    | succ k =>
      have := ih k
      rw [show (k + 1) * 2 + 1 = k * 2 + 1 + 1 + 1 from by omega]
      simp only [dFrs, List.flatMap_cons, dFr, List.cons_append, List.nil_append, List.set_cons_succ] at *
      rw [this]
      simp only [gf, List.getD_cons_succ]
attribute [push_cast] set_dFrs0 set_dFrs1
theorem gf_lt {fs : List Fr} {k : Nat} (h : k < fs.length) : fs[k]? = some (gf fs k) := by
  unfold gf
  rw [List.getD_eq_getElem?_getD, List.getElem?_eq_getElem h]
  rfl
end Go.Proofs.Ytdbecmmeifdafaa
