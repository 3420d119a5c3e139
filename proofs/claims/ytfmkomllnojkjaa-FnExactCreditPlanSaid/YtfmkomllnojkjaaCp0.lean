/- lists changed one by one: plain -/
import Derived.Test.YtfmkomllnojkjaaW7
import Derived.Test.YtfmkomllnojkjaaJ2
namespace Go.Proofs.Ytfmkomllnojkjaa
open Go.RowKit
set_option linter.unusedVariables false
set_option linter.unusedSimpArgs false

theorem app1_dII (xs : List (List Int)) (r : List Int) : dII xs ++ [D.lst 2 (dI r)] = dII (xs ++ [r]) := by simp [dII]
theorem one_dII (r : List Int) : [D.lst 2 (dI r)] = dII [r] := by simp [dII]
theorem app_dII (xs ys : List (List Int)) : dII xs ++ dII ys = dII (xs ++ ys) := by simp [dII]
theorem take_snocL {xs : List (List Int)} {k : Nat} (h : k < xs.length) : xs.take (k + 1) = xs.take k ++ [gl xs k] := by rw [List.take_add_one, gl_lt h]; rfl
theorem take_snocI {xs : List Int} {k : Nat} (h : k < xs.length) : xs.take (k + 1) = xs.take k ++ [gi xs k] := by rw [List.take_add_one, gi_lt h]; rfl
attribute [push_cast] app1_dII app_dII
/-- Numbers changed one by one, so far. -/
def mapI (g : Int → Int) (r : List Int) (k : Nat) : List Int := (r.take k).map g ++ r.drop k
def mapR (g : Int → Int) (xs : List (List Int)) (v : Nat) : List (List Int) := (xs.take v).map (List.map g) ++ xs.drop v
theorem drop_gi' {c : List Int} {k : Nat} (h : k < c.length) : c.drop k = gi c k :: c.drop (k + 1) := by
  rw [List.drop_eq_getElem_cons h]
  congr 1
  unfold gi
  rw [List.getD_eq_getElem?_getD, List.getElem?_eq_getElem h]
  rfl
theorem drop_gl' {c : List (List Int)} {k : Nat} (h : k < c.length) : c.drop k = gl c k :: c.drop (k + 1) := by
  rw [List.drop_eq_getElem_cons h]
  congr 1
  unfold gl
  rw [List.getD_eq_getElem?_getD, List.getElem?_eq_getElem h]
  rfl
theorem mapI_0 (g : Int → Int) (r : List Int) : mapI g r 0 = r := by simp [mapI]
theorem mapI_all (g : Int → Int) (r : List Int) : mapI g r r.length = r.map g := by simp [mapI]
theorem mapI_len {g : Int → Int} {r : List Int} {k : Nat} (h : k ≤ r.length) : (mapI g r k).length = r.length := by simp [mapI]; omega
theorem mapI_gi {g : Int → Int} {r : List Int} {k : Nat} (h : k < r.length) : gi (mapI g r k) k = gi r k := by
  have hl : ((r.take k).map g).length = k := by simp; omega
  unfold mapI
  rw [drop_gi' h]
  exact gi_app_r (xs := (r.take k).map g) (ys := gi r k :: r.drop (k + 1)) (k := 0) hl
theorem mapI_set {g : Int → Int} {r : List Int} {k : Nat} (h : k < r.length) : (mapI g r k).set k (g (gi r k)) = mapI g r (k + 1) := by
  have hl : ((r.take k).map g).length = k := by simp; omega
  unfold mapI
  rw [List.set_append_right _ _ (by omega), hl, Nat.sub_self, drop_gi' h, List.set_cons_zero, List.take_add_one, gi_lt h]
  simp
theorem mapR_0 (g : Int → Int) (xs : List (List Int)) : mapR g xs 0 = xs := by simp [mapR]
theorem mapR_all (g : Int → Int) (xs : List (List Int)) : mapR g xs xs.length = xs.map (List.map g) := by simp [mapR]
theorem mapR_len {g : Int → Int} {xs : List (List Int)} {v : Nat} (h : v ≤ xs.length) : (mapR g xs v).length = xs.length := by simp [mapR]; omega
theorem gl_app_r {xs ys : List (List Int)} {n k : Nat} (h : xs.length = n) : gl (xs ++ ys) (n + k) = gl ys k := by
  subst h
  unfold gl
  rw [List.getD_eq_getElem?_getD, List.getElem?_append_right (by omega), Nat.add_sub_cancel_left, List.getD_eq_getElem?_getD]
theorem mapR_gl {g : Int → Int} {xs : List (List Int)} {v : Nat} (h : v < xs.length) : gl (mapR g xs v) v = gl xs v := by
  have hl : ((xs.take v).map (List.map g)).length = v := by simp; omega
  unfold mapR
  rw [drop_gl' h]
  exact gl_app_r (xs := (xs.take v).map (List.map g)) (ys := gl xs v :: xs.drop (v + 1)) (k := 0) hl
theorem mapR_set {g : Int → Int} {xs : List (List Int)} {v : Nat} (h : v < xs.length) : (mapR g xs v).set v ((gl xs v).map g) = mapR g xs (v + 1) := by
  have hl : ((xs.take v).map (List.map g)).length = v := by simp; omega
  unfold mapR
  rw [List.set_append_right _ _ (by omega), hl, Nat.sub_self, drop_gl' h, List.set_cons_zero, List.take_add_one, gl_lt h]
  simp
theorem gl_set {xs : List (List Int)} {v : Nat} {r : List Int} (h : v < xs.length) : gl (xs.set v r) v = r := by
  unfold gl
  rw [List.getD_eq_getElem?_getD, List.getElem?_set]
  simp [h]
theorem mapR_in0 {g : Int → Int} {xs : List (List Int)} {v : Nat} (h : v < xs.length) : (mapR g xs v).set v (mapI g (gl xs v) 0) = mapR g xs v := by
  have hl : ((xs.take v).map (List.map g)).length = v := by simp; omega
  rw [mapI_0]
  unfold mapR
  rw [List.set_append_right _ _ (by omega), hl, Nat.sub_self, drop_gl' h, List.set_cons_zero]
/-- Inside row v. -/
def mapV (g : Int → Int) (xs : List (List Int)) (v k : Nat) : List (List Int) := (mapR g xs v).set v (mapI g (gl xs v) k)
theorem mapV_0 {g : Int → Int} {xs : List (List Int)} {v : Nat} (h : v < xs.length) : mapV g xs v 0 = mapR g xs v := mapR_in0 h
theorem mapV_all {g : Int → Int} {xs : List (List Int)} {v : Nat} (h : v < xs.length) : mapV g xs v (gl xs v).length = mapR g xs (v + 1) := by
  unfold mapV
  rw [mapI_all, mapR_set h]
theorem mapV_len {g : Int → Int} {xs : List (List Int)} {v k : Nat} (h : v < xs.length) : (mapV g xs v k).length = xs.length := by unfold mapV; rw [List.length_set, mapR_len (by omega)]
theorem mapV_gl {g : Int → Int} {xs : List (List Int)} {v k : Nat} (h : v < xs.length) : gl (mapV g xs v k) v = mapI g (gl xs v) k := by unfold mapV; rw [gl_set (by rw [mapR_len (by omega)]; exact h)]
theorem mapV_set {g : Int → Int} {xs : List (List Int)} {v k : Nat} (h : v < xs.length) (hk : k < (gl xs v).length) : (mapV g xs v k).set v ((gl (mapV g xs v k) v).set k (g (gi (gl xs v) k))) = mapV g xs v (k + 1) := by
  rw [mapV_gl h, mapI_set hk]
  unfold mapV
  rw [List.set_set]
end Go.Proofs.Ytfmkomllnojkjaa
