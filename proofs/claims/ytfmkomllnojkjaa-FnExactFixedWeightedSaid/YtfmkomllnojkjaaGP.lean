/- parity games and scores: both sides -/
import Derived.Test.YtfmkomllnojkjaaGW
import Derived.Test.YtfmkomllnojkjaaGD
namespace Go.Proofs.Ytfmkomllnojkjaa
open Go.RowKit
set_option linter.unusedVariables false
set_option linter.unusedSimpArgs false

def parityB (g : Pa) : Bool := arenaB g.a && (decide (g.prio.length = g.a.owner.length) && allB g.prio.length (fun k => decide (0 ≤ gi g.prio k ∧ gi g.prio k ≤ 40)))
theorem parityB_no1 {g : Pa} (h : arenaB g.a = false) : parityB g = false := by unfold parityB; rw [h]; rfl
theorem parityB_no2 {g : Pa} (h : ¬ g.prio.length = g.a.owner.length) : parityB g = false := by unfold parityB; rw [decide_eq_false h, Bool.false_and, Bool.and_false]
theorem parityB_no3 {g : Pa} {k : Nat} (hk : k < g.prio.length) (h : ¬ (0 ≤ gi g.prio k ∧ gi g.prio k ≤ 40)) : parityB g = false := by unfold parityB; rw [allB_false hk (decide_eq_false h), Bool.and_false, Bool.and_false]
theorem parityB_yes {g : Pa} (h1 : arenaB g.a = true) (h2 : g.prio.length = g.a.owner.length) (h3 : ∀ k, k < g.prio.length → 0 ≤ gi g.prio k ∧ gi g.prio k ≤ 40) : parityB g = true := by
  unfold parityB; rw [h1, decide_eq_true h2, allB_true fun k hk => decide_eq_true (h3 k hk)]; rfl
theorem parity_facts {g : Pa} (h : parityB g = true) : arenaB g.a = true ∧ g.prio.length = g.a.owner.length ∧ 1 ≤ g.a.owner.length ∧ g.a.owner.length ≤ 256 ∧ g.a.next.length = g.a.owner.length ∧ ∀ k, k < g.prio.length → 0 ≤ gi g.prio k ∧ gi g.prio k ≤ 40 := by
  unfold parityB at h
  rw [Bool.and_eq_true, Bool.and_eq_true, decide_eq_true_eq] at h
  have hl := arenaB_len h.1
  exact ⟨h.1, h.2.1, hl.1, hl.2.1, hl.2.2, fun k hk => of_decide_eq_true (allB_at h.2.2 hk)⟩
def pw (n : Int) : Nat → Int
  | 0 => 1
  | k + 1 => pw n k * n
def sg (n : Int) (k : Nat) : Int := if k % 2 = 1 then -pw n k else pw n k
theorem pw_pos {n : Int} (h : 1 ≤ n) : ∀ k, 1 ≤ pw n k
  | 0 => Int.le_refl _
  | k + 1 => by
    have h1 := pw_pos h k
    have : 1 * n ≤ pw n k * n := Int.mul_le_mul_of_nonneg_right h1 (by omega)
    rw [pw]; omega
theorem pw_s {n : Int} (h : 1 ≤ n) (k : Nat) : pw n k ≤ pw n (k + 1) := by
  have h1 := pw_pos h k
  have : pw n k * 1 ≤ pw n k * n := Int.mul_le_mul_of_nonneg_left h (by omega)
  rw [pw]; omega
theorem pw_mono {n : Int} (h : 1 ≤ n) {j k : Nat} (hj : j ≤ k) : pw n j ≤ pw n k := by
  induction k with
  | zero => have : j = 0 := by omega
            subst this; exact Int.le_refl _
  | succ k ih =>
    by_cases e : j = k + 1
    · subst e; exact Int.le_refl _
    · exact Int.le_trans (ih (by omega)) (pw_s h k)
theorem sg_s (n : Int) (k : Nat) : sg n (k + 1) = sg n k * -n := by
  unfold sg
  rw [pw]
  by_cases h : k % 2 = 1
  · rw [if_pos h, if_neg (by omega), Int.neg_mul_neg]
  · rw [if_neg h, if_pos (by omega), Int.mul_neg]
theorem sg_abs {n : Int} (h : 1 ≤ n) (k : Nat) : sg n k = pw n k ∨ sg n k = -pw n k := by unfold sg; split <;> simp
theorem pw_le {n : Int} (h : 1 ≤ n ∧ n ≤ 256) {k : Nat} (hk : pw n k ≤ 1000) : 1 ≤ pw n (k + 1) ∧ pw n (k + 1) ≤ 256000 := by
  refine ⟨pw_pos h.1 _, ?_⟩
  have h1 := pw_pos h.1 k
  have : pw n k * n ≤ pw n k * 256 := Int.mul_le_mul_of_nonneg_left h.2 (by omega)
  rw [pw]; omega
/-- The score, and whether it is not too great. -/
def scoreB (n : Int) (p : Nat) : Bool := decide (pw n p ≤ 1000)
def scoreV (n : Int) (p : Nat) : Int := if pw n p ≤ 1000 then sg n p else 0
theorem scoreB_no {n : Int} (h : 1 ≤ n) {k p : Nat} (hk : k ≤ p) (h2 : ¬ pw n k ≤ 1000) : scoreB n p = false ∧ scoreV n p = 0 := by
  have := pw_mono h hk
  unfold scoreB scoreV
  exact ⟨decide_eq_false (by omega), if_neg (by omega)⟩
theorem scoreB_yes {n : Int} {p : Nat} (h2 : pw n p ≤ 1000) : scoreB n p = true ∧ scoreV n p = sg n p := ⟨decide_eq_true h2, if_pos h2⟩
theorem tmod2 {p : Int} (h : 0 ≤ p) : p.tmod 2 = ((p.toNat % 2 : Nat) : Int) := by
  rw [Int.tmod_eq_emod_of_nonneg h]
  omega
def scoreRB (g : Pa) (v : Int) : Bool := parityB g && decide (0 ≤ v ∧ v < g.a.owner.length) && scoreB g.a.owner.length (gi g.prio v.toNat).toNat
def scoreRV (g : Pa) (v : Int) : Int := if parityB g && decide (0 ≤ v ∧ v < g.a.owner.length) then scoreV g.a.owner.length (gi g.prio v.toNat).toNat else 0
theorem scoreR_no1 {g : Pa} {v : Int} (h : parityB g = false) : scoreRV g v = 0 ∧ scoreRB g v = false := by unfold scoreRV scoreRB; rw [h]; exact ⟨rfl, rfl⟩
theorem scoreR_no2 {g : Pa} {v : Int} (h : ¬ (0 ≤ v ∧ v < g.a.owner.length)) : scoreRV g v = 0 ∧ scoreRB g v = false := by unfold scoreRV scoreRB; rw [decide_eq_false h, Bool.and_false]; exact ⟨rfl, rfl⟩
theorem scoreR_yes {g : Pa} {v : Int} (h : parityB g = true) (h2 : 0 ≤ v ∧ v < g.a.owner.length) : scoreRV g v = scoreV g.a.owner.length (gi g.prio v.toNat).toNat ∧ scoreRB g v = scoreB g.a.owner.length (gi g.prio v.toNat).toNat := by unfold scoreRV scoreRB; rw [h, decide_eq_true h2]; exact ⟨rfl, rfl⟩
end Go.Proofs.Ytfmkomllnojkjaa

/- lists changed one by one: plain -/
namespace Go.Proofs.Ytfmkomllnojkjaa
open Go.RowKit
set_option linter.unusedVariables false
set_option linter.unusedSimpArgs false

theorem app1_dII (xs : List (List Int)) (r : List Int) : dII xs ++ [D.lst 2 (dI r)] = dII (xs ++ [r]) := by simp [dII]
theorem one_dII (r : List Int) : [D.lst 2 (dI r)] = dII [r] := by simp [dII]
theorem app_dII (xs ys : List (List Int)) : dII xs ++ dII ys = dII (xs ++ ys) := by simp [dII]
theorem take_snocL {xs : List (List Int)} {k : Nat} (h : k < xs.length) : xs.take (k + 1) = xs.take k ++ [gl xs k] := by rw [List.take_add_one, gl_lt h]; rfl
theorem take_snocI {xs : List Int} {k : Nat} (h : k < xs.length) : xs.take (k + 1) = xs.take k ++ [gi xs k] := by rw [List.take_add_one, gi_lt h]; rfl
attribute [push_cast] app1_dII app_dII
/-- Numbers changed one by one, so far. -/
def mapI (g : Int → Int) (r : List Int) (k : Nat) : List Int := (r.take k).map g ++ r.drop k
def mapR (g : Int → Int) (xs : List (List Int)) (v : Nat) : List (List Int) := (xs.take v).map (List.map g) ++ xs.drop v
theorem drop_gi' {c : List Int} {k : Nat} (h : k < c.length) : c.drop k = gi c k :: c.drop (k + 1) := by
  rw [List.drop_eq_getElem_cons h]
  congr 1
  unfold gi
  rw [List.getD_eq_getElem?_getD, List.getElem?_eq_getElem h]
  rfl
theorem drop_gl' {c : List (List Int)} {k : Nat} (h : k < c.length) : c.drop k = gl c k :: c.drop (k + 1) := by
  rw [List.drop_eq_getElem_cons h]
  congr 1
  unfold gl
  rw [List.getD_eq_getElem?_getD, List.getElem?_eq_getElem h]
  rfl
theorem mapI_0 (g : Int → Int) (r : List Int) : mapI g r 0 = r := by simp [mapI]
theorem mapI_all (g : Int → Int) (r : List Int) : mapI g r r.length = r.map g := by simp [mapI]
theorem mapI_len {g : Int → Int} {r : List Int} {k : Nat} (h : k ≤ r.length) : (mapI g r k).length = r.length := by simp [mapI]; omega
theorem mapI_gi {g : Int → Int} {r : List Int} {k : Nat} (h : k < r.length) : gi (mapI g r k) k = gi r k := by
  have hl : ((r.take k).map g).length = k := by simp; omega
  unfold mapI
  rw [drop_gi' h]
  exact gi_app_r (xs := (r.take k).map g) (ys := gi r k :: r.drop (k + 1)) (k := 0) hl
theorem mapI_set {g : Int → Int} {r : List Int} {k : Nat} (h : k < r.length) : (mapI g r k).set k (g (gi r k)) = mapI g r (k + 1) := by
  have hl : ((r.take k).map g).length = k := by simp; omega
  unfold mapI
  rw [List.set_append_right _ _ (by omega), hl, Nat.sub_self, drop_gi' h, List.set_cons_zero, List.take_add_one, gi_lt h]
  simp
theorem mapR_0 (g : Int → Int) (xs : List (List Int)) : mapR g xs 0 = xs := by simp [mapR]
theorem mapR_all (g : Int → Int) (xs : List (List Int)) : mapR g xs xs.length = xs.map (List.map g) := by simp [mapR]
theorem mapR_len {g : Int → Int} {xs : List (List Int)} {v : Nat} (h : v ≤ xs.length) : (mapR g xs v).length = xs.length := by simp [mapR]; omega
theorem gl_app_r {xs ys : List (List Int)} {n k : Nat} (h : xs.length = n) : gl (xs ++ ys) (n + k) = gl ys k := by
  subst h
  unfold gl
  rw [List.getD_eq_getElem?_getD, List.getElem?_append_right (by omega), Nat.add_sub_cancel_left, List.getD_eq_getElem?_getD]
theorem mapR_gl {g : Int → Int} {xs : List (List Int)} {v : Nat} (h : v < xs.length) : gl (mapR g xs v) v = gl xs v := by
  have hl : ((xs.take v).map (List.map g)).length = v := by simp; omega
  unfold mapR
  rw [drop_gl' h]
  exact gl_app_r (xs := (xs.take v).map (List.map g)) (ys := gl xs v :: xs.drop (v + 1)) (k := 0) hl
theorem mapR_set {g : Int → Int} {xs : List (List Int)} {v : Nat} (h : v < xs.length) : (mapR g xs v).set v ((gl xs v).map g) = mapR g xs (v + 1) := by
  have hl : ((xs.take v).map (List.map g)).length = v := by simp; omega
  unfold mapR
  rw [List.set_append_right _ _ (by omega), hl, Nat.sub_self, drop_gl' h, List.set_cons_zero, List.take_add_one, gl_lt h]
  simp
theorem gl_set {xs : List (List Int)} {v : Nat} {r : List Int} (h : v < xs.length) : gl (xs.set v r) v = r := by
  unfold gl
  rw [List.getD_eq_getElem?_getD, List.getElem?_set]
  simp [h]
theorem mapR_in0 {g : Int → Int} {xs : List (List Int)} {v : Nat} (h : v < xs.length) : (mapR g xs v).set v (mapI g (gl xs v) 0) = mapR g xs v := by
  have hl : ((xs.take v).map (List.map g)).length = v := by simp; omega
  rw [mapI_0]
  unfold mapR
  rw [List.set_append_right _ _ (by omega), hl, Nat.sub_self, drop_gl' h, List.set_cons_zero]
/-- Inside row v. -/
def mapV (g : Int → Int) (xs : List (List Int)) (v k : Nat) : List (List Int) := (mapR g xs v).set v (mapI g (gl xs v) k)
theorem mapV_0 {g : Int → Int} {xs : List (List Int)} {v : Nat} (h : v < xs.length) : mapV g xs v 0 = mapR g xs v := mapR_in0 h
theorem mapV_all {g : Int → Int} {xs : List (List Int)} {v : Nat} (h : v < xs.length) : mapV g xs v (gl xs v).length = mapR g xs (v + 1) := by
  unfold mapV
  rw [mapI_all, mapR_set h]
theorem mapV_len {g : Int → Int} {xs : List (List Int)} {v k : Nat} (h : v < xs.length) : (mapV g xs v k).length = xs.length := by unfold mapV; rw [List.length_set, mapR_len (by omega)]
theorem mapV_gl {g : Int → Int} {xs : List (List Int)} {v k : Nat} (h : v < xs.length) : gl (mapV g xs v k) v = mapI g (gl xs v) k := by unfold mapV; rw [gl_set (by rw [mapR_len (by omega)]; exact h)]
theorem mapV_set {g : Int → Int} {xs : List (List Int)} {v k : Nat} (h : v < xs.length) (hk : k < (gl xs v).length) : (mapV g xs v k).set v ((gl (mapV g xs v k) v).set k (g (gi (gl xs v) k))) = mapV g xs v (k + 1) := by
  rw [mapV_gl h, mapI_set hk]
  unfold mapV
  rw [List.set_set]
end Go.Proofs.Ytfmkomllnojkjaa

/- copies of rows, of arenas and of weighted arenas; arenas with the owners exchanged: both sides -/
namespace Go.Proofs.Ytfmkomllnojkjaa
open Go.RowKit
set_option linter.unusedVariables false
set_option linter.unusedSimpArgs false

set_option maxRecDepth 20000 in
set_option maxHeartbeats 4000000 in
theorem copyLists_fn (xs : List (List Int)) (hx : LnII 1048576 xs) : Fn Try.prog tyT 79 [.c (DII xs)] [.c (DII xs)] := by
  have h1 := hx.1
  have hr : ∀ v, (gl xs v).length ≤ 1048576 := fun v => gl_le hx v
  refine Fn_of (fn := Try.f79) (ts := [2]) Try.func79 (by kernel_rfl) rfl rfl (by rw [Try.ntmps79]; exact Nat.le_of_ble_eq_true rfl) rfl (by simp only [szA, List.mem_cons, List.not_mem_nil, or_false, forall_eq_or_imp, forall_eq, VT.cells, szL]; try decide) ?_
  rw [Try.ntmps79]
  simp only [push_cast, ↓brB_true, ↓brB_false, ↓reduceIte, Nat.reduceMod, Nat.reduceMul, Nat.reduceDiv, Nat.reduceAdd, Nat.reduceSub, Nat.reduceEqDiff, Nat.reduceBEq, Nat.reduceLT, Nat.reduceLeDiff, reduceCtorEq]
  refine awp_seq' fun K hK => ?_
  refine awp_region tyOk tyPos [] rfl ?_
  all_goals simp only [push_cast, ↓brB_true, ↓brB_false, ↓reduceIte, Nat.reduceMod, Nat.reduceMul, Nat.reduceDiv, Nat.reduceAdd, Nat.reduceSub, Nat.reduceEqDiff, Nat.reduceBEq, Nat.reduceLT, Nat.reduceLeDiff, reduceCtorEq]
  all_goals repeat' (first | (apply brB_mk <;> (intro hg; (try simp only [push_cast] at hg))) | apply And.intro | (intro hg; (try simp only [push_cast] at hg)))
  all_goals first | exact True.intro | exact rfl | contradiction | omega | with_reducible assumption | (exact getE_dII (by omega)) | skip
  all_goals first | (refine hK _ ?_; clear hK K) | (simp only [push_cast]; done)
  refine awp_seq' fun K hK => ?_
  refine awp_regionN false tyOk tyPos ?_ rfl ?_
  · kernel_rfl
  simp only [push_cast, ↓brB_true, ↓brB_false, ↓reduceIte, Nat.reduceMod, Nat.reduceMul, Nat.reduceDiv, Nat.reduceAdd, Nat.reduceSub, Nat.reduceEqDiff, Nat.reduceBEq, Nat.reduceLT, Nat.reduceLeDiff, reduceCtorEq]
  all_goals repeat' (first | (apply brB_mk <;> (intro hg; (try simp only [push_cast] at hg))) | apply And.intro | (intro hg; (try simp only [push_cast] at hg)))
  all_goals first | exact True.intro | exact rfl | contradiction | omega | with_reducible assumption | (exact getE_dII (by omega)) | skip
  all_goals first | (refine hK _ ?_; clear hK K) | (simp only [push_cast]; done)
  refine awp_settle 22 3 (Nat.le_of_ble_eq_true rfl) ?_
  simp only [push_cast, ↓brB_true, ↓brB_false, ↓reduceIte, Nat.reduceMod, Nat.reduceMul, Nat.reduceDiv, Nat.reduceAdd, Nat.reduceSub, Nat.reduceEqDiff, Nat.reduceBEq, Nat.reduceLT, Nat.reduceLeDiff, reduceCtorEq]
  refine awp_seq' fun K1 hK1 => ?_
  refine awp_seq' fun K hK => ?_
  refine awp_region tyOk tyPos [] rfl ?_
  all_goals simp only [push_cast, ↓brB_true, ↓brB_false, ↓reduceIte, Nat.reduceMod, Nat.reduceMul, Nat.reduceDiv, Nat.reduceAdd, Nat.reduceSub, Nat.reduceEqDiff, Nat.reduceBEq, Nat.reduceLT, Nat.reduceLeDiff, reduceCtorEq]
  all_goals repeat' (first | (apply brB_mk <;> (intro hg; (try simp only [push_cast] at hg))) | apply And.intro | (intro hg; (try simp only [push_cast] at hg)))
  all_goals first | exact True.intro | exact rfl | contradiction | omega | with_reducible assumption | (exact getE_dII (by omega)) | skip
  all_goals first | (refine hK _ ?_; clear hK K) | (simp only [push_cast]; done)
  refine awp_block ?_
  rw [show ([] : List D) = dII (xs.take 0) from by simp [dII]]
  refine awp_loopU [3,5,9,10,11,12,13,14,15,16,17,18,19] [48] (fun (k : Nat) => [(9, .int .i64 k), (3, .sl 48 [] 0 k 22)]) (fun k => []) (fun k => [(48, ⟨.ex, 22, dII (xs.take k), none⟩)]) (fun k => k ≤ xs.length) (fun k => xs.length - k) 0 ?_ (by omega) ?_
  ·
    refine cov_of rfl ?_ ?_ ?_ <;> simp only [covS, covL, push_cast, ↓brB_true, ↓brB_false, ↓reduceIte, Nat.reduceMod, Nat.reduceMul, Nat.reduceDiv, Nat.reduceAdd, Nat.reduceSub, Nat.reduceEqDiff, Nat.reduceBEq, Nat.reduceLT, Nat.reduceLeDiff, reduceCtorEq]
  · rintro k hk KL0 hL0
    have htk : (xs.take k).length = k := by rw [List.length_take]; omega
    have hrk := hr k
    simp only [push_cast, ↓brB_true, ↓brB_false, ↓reduceIte, Nat.reduceMod, Nat.reduceMul, Nat.reduceDiv, Nat.reduceAdd, Nat.reduceSub, Nat.reduceEqDiff, Nat.reduceBEq, Nat.reduceLT, Nat.reduceLeDiff, reduceCtorEq]
    refine awp_seq' fun K hK => ?_
    refine awp_region tyOk tyPos [] rfl ?_
    all_goals simp only [push_cast, ↓brB_true, ↓brB_false, ↓reduceIte, Nat.reduceMod, Nat.reduceMul, Nat.reduceDiv, Nat.reduceAdd, Nat.reduceSub, Nat.reduceEqDiff, Nat.reduceBEq, Nat.reduceLT, Nat.reduceLeDiff, reduceCtorEq]
    all_goals repeat' (first | (apply brB_mk <;> (intro hg; (try simp only [push_cast] at hg))) | apply And.intro | (intro hg; (try simp only [push_cast] at hg)))
    all_goals first | exact True.intro | exact rfl | contradiction | omega | with_reducible assumption | (exact getE_dII (by omega)) | skip
    all_goals first | (refine hK _ ?_; clear hK K) | (simp only [push_cast]; done)
    refine awp_seq' fun K2 hK2 => ?_
    refine awp_cond rfl (fun hc => ?_) (fun hc => ?_) <;> (try simp only [push_cast] at hc)
    ·
      refine awp_skip ?_
      (try simp only [AThen, ABlk, reduceIte, Nat.reduceEqDiff]); refine hK2 _ ?_
      refine awp_seq' fun K3 hK3 => ?_
      refine awp_block ?_
      refine awp_seq' fun K hK => ?_
      refine awp_region tyOk tyPos [] rfl ?_
      all_goals simp only [push_cast, ↓brB_true, ↓brB_false, ↓reduceIte, Nat.reduceMod, Nat.reduceMul, Nat.reduceDiv, Nat.reduceAdd, Nat.reduceSub, Nat.reduceEqDiff, Nat.reduceBEq, Nat.reduceLT, Nat.reduceLeDiff, reduceCtorEq]
      all_goals repeat' (first | (apply brB_mk <;> (intro hg; (try simp only [push_cast] at hg))) | apply And.intro | (intro hg; (try simp only [push_cast] at hg)))
      all_goals first | exact True.intro | exact rfl | contradiction | omega | with_reducible assumption | (exact getE_dII (by omega)) | skip
      all_goals first | (refine hK _ ?_; clear hK K) | (simp only [push_cast]; done)
      refine awp_regionN false tyOk tyPos ?_ rfl ?_
      · kernel_rfl
      simp only [push_cast, ↓brB_true, ↓brB_false, ↓reduceIte, Nat.reduceMod, Nat.reduceMul, Nat.reduceDiv, Nat.reduceAdd, Nat.reduceSub, Nat.reduceEqDiff, Nat.reduceBEq, Nat.reduceLT, Nat.reduceLeDiff, reduceCtorEq]
      all_goals repeat' (first | (apply brB_mk <;> (intro hg; (try simp only [push_cast] at hg))) | apply And.intro | (intro hg; (try simp only [push_cast] at hg)))
      all_goals first | exact True.intro | exact rfl | contradiction | omega | with_reducible assumption | (exact getE_dII (by omega)) | skip
      (try simp only [AThen, ABlk, reduceIte, Nat.reduceEqDiff]); refine hK3 _ ?_
      refine awp_settle 22 3 (Nat.le_of_ble_eq_true rfl) ?_
      simp only [push_cast, ↓brB_true, ↓brB_false, ↓reduceIte, Nat.reduceMod, Nat.reduceMul, Nat.reduceDiv, Nat.reduceAdd, Nat.reduceSub, Nat.reduceEqDiff, Nat.reduceBEq, Nat.reduceLT, Nat.reduceLeDiff, reduceCtorEq]
      refine awp_region tyOk tyPos [] rfl ?_
      all_goals simp only [push_cast, ↓brB_true, ↓brB_false, ↓reduceIte, Nat.reduceMod, Nat.reduceMul, Nat.reduceDiv, Nat.reduceAdd, Nat.reduceSub, Nat.reduceEqDiff, Nat.reduceBEq, Nat.reduceLT, Nat.reduceLeDiff, reduceCtorEq]
      all_goals repeat' (first | (apply brB_mk <;> (intro hg; (try simp only [push_cast] at hg))) | apply And.intro | (intro hg; (try simp only [push_cast] at hg)))
      all_goals first | exact True.intro | exact rfl | contradiction | omega | with_reducible assumption | (exact getE_dII (by omega)) | skip
      refine hL0 _ ⟨k + 1, by omega, by omega, ?_⟩
      (try rw [List.take_take, Nat.min_self])
      rw [take_snocL (by omega)]
      refine cov_of rfl ?_ ?_ ?_ <;> simp only [covS, covL, push_cast, ↓brB_true, ↓brB_false, ↓reduceIte, Nat.reduceMod, Nat.reduceMul, Nat.reduceDiv, Nat.reduceAdd, Nat.reduceSub, Nat.reduceEqDiff, Nat.reduceBEq, Nat.reduceLT, Nat.reduceLeDiff, reduceCtorEq]
    ·
      refine awp_exit ?_
      have hkk : k = xs.length := by omega
      subst hkk
      rw [List.take_length]
      (try simp only [AThen, ABlk, reduceIte, Nat.reduceEqDiff]); refine hK1 _ ?_
      refine awp_seq' fun K hK => ?_
      refine awp_region tyOk tyPos [] rfl ?_
      all_goals simp only [push_cast, ↓brB_true, ↓brB_false, ↓reduceIte, Nat.reduceMod, Nat.reduceMul, Nat.reduceDiv, Nat.reduceAdd, Nat.reduceSub, Nat.reduceEqDiff, Nat.reduceBEq, Nat.reduceLT, Nat.reduceLeDiff, reduceCtorEq]
      all_goals repeat' (first | (apply brB_mk <;> (intro hg; (try simp only [push_cast] at hg))) | apply And.intro | (intro hg; (try simp only [push_cast] at hg)))
      all_goals first | exact True.intro | exact rfl | contradiction | omega | with_reducible assumption | (exact getE_dII (by omega)) | skip
      all_goals first | (refine hK _ ?_; clear hK K) | (simp only [push_cast]; done)
      refine awp_ret ?_
      (try simp only [AThen, ABlk])
      refine ⟨Or.inl rfl, ?_⟩
      simp only [RetOk, push_cast, ↓brB_true, ↓brB_false, ↓reduceIte, Nat.reduceMod, Nat.reduceMul, Nat.reduceDiv, Nat.reduceAdd, Nat.reduceSub, Nat.reduceEqDiff, Nat.reduceBEq, Nat.reduceLT, Nat.reduceLeDiff, reduceCtorEq]
set_option maxRecDepth 20000 in
set_option maxHeartbeats 4000000 in
theorem copyArena_fn (a : Ar) (ha : a.Ln 1048576) : Fn Try.prog tyT 115 [.agg (dAr a)] [.agg (dAr a)] := by
  have h0 := ha.owner
  have h1 := ha.next.1
  have hC := copyLists_fn a.next ha.next
  unfold LnI at h0
  unfold dAr
  refine Fn_ofR (fn := Try.f115) (rs := [.cell 2 30]) tyOk tyPos Try.func115 (by kernel_rfl) rfl rfl (by rw [Try.ntmps115]; exact Nat.le_of_ble_eq_true rfl) rfl (by simp only [szA, List.mem_cons, List.not_mem_nil, or_false, forall_eq_or_imp, forall_eq, VT.cells, szL]; try decide) ?_
  rw [Try.ntmps115]
  simp only [push_cast, ↓brB_true, ↓brB_false, ↓reduceIte, Nat.reduceMod, Nat.reduceMul, Nat.reduceDiv, Nat.reduceAdd, Nat.reduceSub, Nat.reduceEqDiff, Nat.reduceBEq, Nat.reduceLT, Nat.reduceLeDiff, reduceCtorEq]
  refine awp_seq' fun K hK => ?_
  refine awp_region tyOk tyPos [] rfl ?_
  simp only [push_cast, ↓brB_true, ↓brB_false, ↓reduceIte, Nat.reduceMod, Nat.reduceMul, Nat.reduceDiv, Nat.reduceAdd, Nat.reduceSub, Nat.reduceEqDiff, Nat.reduceBEq, Nat.reduceLT, Nat.reduceLeDiff, reduceCtorEq]
  repeat' apply And.intro
  all_goals first | exact True.intro | exact rfl | omega | with_reducible assumption | (simp only [List.length_set, List.length_append, List.length_replicate, List.length_cons, List.length_nil]; omega) | skip
  all_goals first | (refine hK _ ?_; clear hK K) | (simp only [push_cast]; done)
  refine awp_seq' fun K hK => ?_
  refine awp_regionD1 false tyOk tyPos tyMix ?_ rfl ?_
  · kernel_rfl
  intro E hE
  all_goals refine lexF_cut 7 (by decide) fun K9 hK9 => ?_
  all_goals simp only [push_cast, ↓brB_true, ↓brB_false, ↓reduceIte, Nat.reduceMod, Nat.reduceMul, Nat.reduceDiv, Nat.reduceAdd, Nat.reduceSub, Nat.reduceEqDiff, Nat.reduceBEq, Nat.reduceLT, Nat.reduceLeDiff, reduceCtorEq]
  all_goals repeat' (first | (apply brB_mk <;> (intro hg; (try simp only [push_cast] at hg))) | (refine ⟨_, hC, ?_⟩; simp only [push_cast, ↓brB_true, ↓brB_false, ↓reduceIte, Nat.reduceMod, Nat.reduceMul, Nat.reduceDiv, Nat.reduceAdd, Nat.reduceSub, Nat.reduceEqDiff, Nat.reduceBEq, Nat.reduceLT, Nat.reduceLeDiff, reduceCtorEq]) | apply And.intro | (intro hg; (try simp only [push_cast] at hg)))
  all_goals first | exact True.intro | exact rfl | contradiction | omega | with_reducible assumption | skip
  all_goals first | (refine hK9 _ _ ?_; clear hK9 K9) | (simp only [push_cast]; done)
  all_goals simp only [push_cast, ↓brB_true, ↓brB_false, ↓reduceIte, Nat.reduceMod, Nat.reduceMul, Nat.reduceDiv, Nat.reduceAdd, Nat.reduceSub, Nat.reduceEqDiff, Nat.reduceBEq, Nat.reduceLT, Nat.reduceLeDiff, reduceCtorEq]
  all_goals repeat' (first | (apply brB_mk <;> (intro hg; (try simp only [push_cast] at hg))) | (refine ⟨_, hC, ?_⟩; simp only [push_cast, ↓brB_true, ↓brB_false, ↓reduceIte, Nat.reduceMod, Nat.reduceMul, Nat.reduceDiv, Nat.reduceAdd, Nat.reduceSub, Nat.reduceEqDiff, Nat.reduceBEq, Nat.reduceLT, Nat.reduceLeDiff, reduceCtorEq]) | apply And.intro | (intro hg; (try simp only [push_cast] at hg)))
  all_goals first | exact True.intro | exact rfl | contradiction | omega | with_reducible assumption | (refine hE _ _ ?_ ?_; kernel_rfl) | skip
  all_goals clear hE E
  all_goals first | (refine hK _ ?_; clear hK K) | (simp only [push_cast]; done)
  refine awp_ret ?_
  (try simp only [AThen, ABlk])
  refine ⟨Or.inl rfl, ?_⟩
  simp only [RetOk, resVars, resVar, push_cast, ↓brB_true, ↓brB_false, ↓reduceIte, Nat.reduceMod, Nat.reduceMul, Nat.reduceDiv, Nat.reduceAdd, Nat.reduceSub, Nat.reduceEqDiff, Nat.reduceBEq, Nat.reduceLT, Nat.reduceLeDiff, reduceCtorEq]
set_option maxRecDepth 20000 in
set_option maxHeartbeats 4000000 in
theorem l1CopyArena_fn (a : Ar) (ha : a.Ln 1048576) : Fn Try.prog tyT 114 [.agg (dAr a)] [.agg (dAr a)] := by
  have h0 := ha.owner
  have hC0 := l1Copy_fn a.owner h0
  obtain ⟨ow, xs⟩ := a
  have hx : LnII 1048576 xs := ha.next
  have h1 := hx.1
  have hr : ∀ v, (gl xs v).length ≤ 1048576 := fun v => gl_le hx v
  have hC := fun k => l1Copy_fn (gl xs k) (hr k)
  unfold LnI at h0
  dsimp only at h0 hC0
  unfold dAr
  refine Fn_ofR (fn := Try.f114) (rs := [.cell 2 30]) tyOk tyPos Try.func114 (by kernel_rfl) rfl rfl (by rw [Try.ntmps114]; exact Nat.le_of_ble_eq_true rfl) rfl (by simp only [szA, List.mem_cons, List.not_mem_nil, or_false, forall_eq_or_imp, forall_eq, VT.cells, szL]; try decide) ?_
  rw [Try.ntmps114]
  simp only [push_cast, ↓brB_true, ↓brB_false, ↓reduceIte, Nat.reduceMod, Nat.reduceMul, Nat.reduceDiv, Nat.reduceAdd, Nat.reduceSub, Nat.reduceEqDiff, Nat.reduceBEq, Nat.reduceLT, Nat.reduceLeDiff, reduceCtorEq]
  refine awp_seq' fun K hK => ?_
  refine awp_region tyOk tyPos [] rfl ?_
  all_goals simp only [push_cast, ↓brB_true, ↓brB_false, ↓reduceIte, Nat.reduceMod, Nat.reduceMul, Nat.reduceDiv, Nat.reduceAdd, Nat.reduceSub, Nat.reduceEqDiff, Nat.reduceBEq, Nat.reduceLT, Nat.reduceLeDiff, reduceCtorEq]
  all_goals repeat' (first | (apply brB_mk <;> (intro hg; (try simp only [push_cast] at hg))) | apply And.intro | (intro hg; (try simp only [push_cast] at hg)))
  all_goals first | exact True.intro | exact rfl | contradiction | omega | with_reducible assumption | (exact getE_dII (by omega)) | skip
  all_goals first | (refine hK _ ?_; clear hK K) | (simp only [push_cast]; done)
  refine awp_seq' fun K hK => ?_
  refine awp_region tyOk tyPos [] rfl ?_
  all_goals refine aops_cut 3 fun K9 hK9 => ?_
  all_goals simp only [push_cast, ↓brB_true, ↓brB_false, ↓reduceIte, Nat.reduceMod, Nat.reduceMul, Nat.reduceDiv, Nat.reduceAdd, Nat.reduceSub, Nat.reduceEqDiff, Nat.reduceBEq, Nat.reduceLT, Nat.reduceLeDiff, reduceCtorEq]
  all_goals repeat' (first | (apply brB_mk <;> (intro hg; (try simp only [push_cast] at hg))) | (refine ⟨_, hC0, ?_⟩; simp only [push_cast, ↓brB_true, ↓brB_false, ↓reduceIte, Nat.reduceMod, Nat.reduceMul, Nat.reduceDiv, Nat.reduceAdd, Nat.reduceSub, Nat.reduceEqDiff, Nat.reduceBEq, Nat.reduceLT, Nat.reduceLeDiff, reduceCtorEq]) | apply And.intro | (intro hg; (try simp only [push_cast] at hg)))
  all_goals first | exact True.intro | exact rfl | contradiction | omega | with_reducible assumption | (exact getE_dII (by omega)) | skip
  all_goals first | (refine hK9 _ ?_; clear hK9 K9) | (simp only [push_cast]; done)
  all_goals simp only [push_cast, ↓brB_true, ↓brB_false, ↓reduceIte, Nat.reduceMod, Nat.reduceMul, Nat.reduceDiv, Nat.reduceAdd, Nat.reduceSub, Nat.reduceEqDiff, Nat.reduceBEq, Nat.reduceLT, Nat.reduceLeDiff, reduceCtorEq]
  all_goals repeat' (first | (apply brB_mk <;> (intro hg; (try simp only [push_cast] at hg))) | (refine ⟨_, hC0, ?_⟩; simp only [push_cast, ↓brB_true, ↓brB_false, ↓reduceIte, Nat.reduceMod, Nat.reduceMul, Nat.reduceDiv, Nat.reduceAdd, Nat.reduceSub, Nat.reduceEqDiff, Nat.reduceBEq, Nat.reduceLT, Nat.reduceLeDiff, reduceCtorEq]) | apply And.intro | (intro hg; (try simp only [push_cast] at hg)))
  all_goals first | exact True.intro | exact rfl | contradiction | omega | with_reducible assumption | (exact getE_dII (by omega)) | skip
  all_goals first | (refine hK _ ?_; clear hK K) | (simp only [push_cast]; done)
  refine awp_seq' fun K1 hK1 => ?_
  refine awp_seq' fun K hK => ?_
  refine awp_region tyOk tyPos [] rfl ?_
  all_goals simp only [push_cast, ↓brB_true, ↓brB_false, ↓reduceIte, Nat.reduceMod, Nat.reduceMul, Nat.reduceDiv, Nat.reduceAdd, Nat.reduceSub, Nat.reduceEqDiff, Nat.reduceBEq, Nat.reduceLT, Nat.reduceLeDiff, reduceCtorEq]
  all_goals repeat' (first | (apply brB_mk <;> (intro hg; (try simp only [push_cast] at hg))) | apply And.intro | (intro hg; (try simp only [push_cast] at hg)))
  all_goals first | exact True.intro | exact rfl | contradiction | omega | with_reducible assumption | (exact getE_dII (by omega)) | skip
  all_goals first | (refine hK _ ?_; clear hK K) | (simp only [push_cast]; done)
  refine awp_block ?_
  refine awp_loopU [3,4,9,10,11,12,13,14,15,16,17,18,19,20,21,22,23,24,25,26] [49] (fun (k : Nat) => [(4, .int .i64 k), (3, .bp 3 0)]) (fun k => [(3, [.sl 48 [] 0 ow.length 2, .sl 49 [] 0 k 22])]) (fun k => [(48, ⟨.ex, 2, dI ow, none⟩), (49, ⟨.ex, 22, dII (xs.take k), none⟩)]) (fun k => k ≤ xs.length) (fun k => xs.length - k) 0 ?_ (by omega) ?_
  ·
    rw [show dII (xs.take 0) = [] from by simp [dII]]
    refine cov_of rfl ?_ ?_ ?_ <;> simp only [covS, covL, push_cast, ↓brB_true, ↓brB_false, ↓reduceIte, Nat.reduceMod, Nat.reduceMul, Nat.reduceDiv, Nat.reduceAdd, Nat.reduceSub, Nat.reduceEqDiff, Nat.reduceBEq, Nat.reduceLT, Nat.reduceLeDiff, reduceCtorEq]
  · rintro k hk KL0 hL0
    have htk : (xs.take k).length = k := by rw [List.length_take]; omega
    have hrk := hr k
    simp only [push_cast, ↓brB_true, ↓brB_false, ↓reduceIte, Nat.reduceMod, Nat.reduceMul, Nat.reduceDiv, Nat.reduceAdd, Nat.reduceSub, Nat.reduceEqDiff, Nat.reduceBEq, Nat.reduceLT, Nat.reduceLeDiff, reduceCtorEq]
    refine awp_seq' fun K2 hK2 => ?_
    refine awp_seq' fun K hK => ?_
    refine awp_region tyOk tyPos [] rfl ?_
    all_goals simp only [push_cast, ↓brB_true, ↓brB_false, ↓reduceIte, Nat.reduceMod, Nat.reduceMul, Nat.reduceDiv, Nat.reduceAdd, Nat.reduceSub, Nat.reduceEqDiff, Nat.reduceBEq, Nat.reduceLT, Nat.reduceLeDiff, reduceCtorEq]
    all_goals repeat' (first | (apply brB_mk <;> (intro hg; (try simp only [push_cast] at hg))) | apply And.intro | (intro hg; (try simp only [push_cast] at hg)))
    all_goals first | exact True.intro | exact rfl | contradiction | omega | with_reducible assumption | (exact getE_dII (by omega)) | skip
    all_goals first | (refine hK _ ?_; clear hK K) | (simp only [push_cast]; done)
    refine awp_cond rfl (fun hc => ?_) (fun hc => ?_) <;> (try simp only [push_cast] at hc)
    ·
      refine awp_skip ?_
      (try simp only [AThen, ABlk, reduceIte, Nat.reduceEqDiff]); refine hK2 _ ?_
      refine awp_seq' fun K3 hK3 => ?_
      refine awp_block ?_
      refine awp_regionD1 false tyOk tyPos tyMix ?_ rfl ?_
      · kernel_rfl
      intro E hE
      all_goals refine lexF_cut 8 (by decide) fun K9 hK9 => ?_
      all_goals simp only [push_cast, ↓brB_true, ↓brB_false, ↓reduceIte, Nat.reduceMod, Nat.reduceMul, Nat.reduceDiv, Nat.reduceAdd, Nat.reduceSub, Nat.reduceEqDiff, Nat.reduceBEq, Nat.reduceLT, Nat.reduceLeDiff, reduceCtorEq]
      all_goals repeat' (first | (apply brB_mk <;> (intro hg; (try simp only [push_cast] at hg))) | (refine ⟨_, hC k, ?_⟩; simp only [push_cast, ↓brB_true, ↓brB_false, ↓reduceIte, Nat.reduceMod, Nat.reduceMul, Nat.reduceDiv, Nat.reduceAdd, Nat.reduceSub, Nat.reduceEqDiff, Nat.reduceBEq, Nat.reduceLT, Nat.reduceLeDiff, reduceCtorEq]) | apply And.intro | (intro hg; (try simp only [push_cast] at hg)))
      all_goals first | exact True.intro | exact rfl | contradiction | omega | with_reducible assumption | (exact getE_dII (by omega)) | skip
      all_goals first | (refine hK9 _ _ ?_; clear hK9 K9) | (simp only [push_cast]; done)
      all_goals simp only [push_cast, ↓brB_true, ↓brB_false, ↓reduceIte, Nat.reduceMod, Nat.reduceMul, Nat.reduceDiv, Nat.reduceAdd, Nat.reduceSub, Nat.reduceEqDiff, Nat.reduceBEq, Nat.reduceLT, Nat.reduceLeDiff, reduceCtorEq]
      all_goals repeat' (first | (apply brB_mk <;> (intro hg; (try simp only [push_cast] at hg))) | (refine ⟨_, hC k, ?_⟩; simp only [push_cast, ↓brB_true, ↓brB_false, ↓reduceIte, Nat.reduceMod, Nat.reduceMul, Nat.reduceDiv, Nat.reduceAdd, Nat.reduceSub, Nat.reduceEqDiff, Nat.reduceBEq, Nat.reduceLT, Nat.reduceLeDiff, reduceCtorEq]) | apply And.intro | (intro hg; (try simp only [push_cast] at hg)))
      all_goals first | exact True.intro | exact rfl | contradiction | omega | with_reducible assumption | (refine hE _ _ ?_ ?_; kernel_rfl) | (exact getE_dII (by omega)) | skip
      all_goals clear hE E
      (try simp only [AThen, ABlk, reduceIte, Nat.reduceEqDiff]); refine hK3 _ ?_
      refine awp_settleB [.sl 2, .sl 22] 3 ?_
      simp only [push_cast, ↓brB_true, ↓brB_false, ↓reduceIte, Nat.reduceMod, Nat.reduceMul, Nat.reduceDiv, Nat.reduceAdd, Nat.reduceSub, Nat.reduceEqDiff, Nat.reduceBEq, Nat.reduceLT, Nat.reduceLeDiff, reduceCtorEq]
      refine awp_region tyOk tyPos [] rfl ?_
      all_goals simp only [push_cast, ↓brB_true, ↓brB_false, ↓reduceIte, Nat.reduceMod, Nat.reduceMul, Nat.reduceDiv, Nat.reduceAdd, Nat.reduceSub, Nat.reduceEqDiff, Nat.reduceBEq, Nat.reduceLT, Nat.reduceLeDiff, reduceCtorEq]
      all_goals repeat' (first | (apply brB_mk <;> (intro hg; (try simp only [push_cast] at hg))) | apply And.intro | (intro hg; (try simp only [push_cast] at hg)))
      all_goals first | exact True.intro | exact rfl | contradiction | omega | with_reducible assumption | (exact getE_dII (by omega)) | skip
      refine hL0 _ ⟨k + 1, by omega, by omega, ?_⟩
      (try rw [List.take_take, Nat.min_self])
      rw [take_snocL (by omega)]
      refine cov_of rfl ?_ ?_ ?_ <;> simp only [covS, covL, push_cast, ↓brB_true, ↓brB_false, ↓reduceIte, Nat.reduceMod, Nat.reduceMul, Nat.reduceDiv, Nat.reduceAdd, Nat.reduceSub, Nat.reduceEqDiff, Nat.reduceBEq, Nat.reduceLT, Nat.reduceLeDiff, reduceCtorEq]
    ·
      refine awp_exit ?_
      have hkk : k = xs.length := by omega
      subst hkk
      rw [List.take_length]
      (try simp only [AThen, ABlk, reduceIte, Nat.reduceEqDiff]); refine hK1 _ ?_
      refine awp_seq' fun K hK => ?_
      refine awp_region tyOk tyPos [] rfl ?_
      all_goals simp only [push_cast, ↓brB_true, ↓brB_false, ↓reduceIte, Nat.reduceMod, Nat.reduceMul, Nat.reduceDiv, Nat.reduceAdd, Nat.reduceSub, Nat.reduceEqDiff, Nat.reduceBEq, Nat.reduceLT, Nat.reduceLeDiff, reduceCtorEq]
      all_goals repeat' (first | (apply brB_mk <;> (intro hg; (try simp only [push_cast] at hg))) | apply And.intro | (intro hg; (try simp only [push_cast] at hg)))
      all_goals first | exact True.intro | exact rfl | contradiction | omega | with_reducible assumption | (exact getE_dII (by omega)) | skip
      all_goals first | (refine hK _ ?_; clear hK K) | (simp only [push_cast]; done)
      refine awp_ret ?_
      (try simp only [AThen, ABlk])
      refine ⟨Or.inl rfl, ?_⟩
      simp only [RetOk, resVars, resVar, push_cast, ↓brB_true, ↓brB_false, ↓reduceIte, Nat.reduceMod, Nat.reduceMul, Nat.reduceDiv, Nat.reduceAdd, Nat.reduceSub, Nat.reduceEqDiff, Nat.reduceBEq, Nat.reduceLT, Nat.reduceLeDiff, reduceCtorEq]
set_option maxRecDepth 20000 in
set_option maxHeartbeats 4000000 in
theorem l20Copy_fn (w : Wt) (ha : w.Ln 1048576) : Fn Try.prog tyT 76 [.agg (dWt w)] [.agg (dWt w)] := by
  have h0 := ha.a.owner
  have h2 := ha.a.next.1
  have hC0 := l1CopyArena_fn w.a ha.a
  obtain ⟨a, xs⟩ := w
  have hx : LnII 1048576 xs := ha.cost
  have h1 := hx.1
  have hr : ∀ v, (gl xs v).length ≤ 1048576 := fun v => gl_le hx v
  have hC := fun k => l1Copy_fn (gl xs k) (hr k)
  unfold LnI at h0
  dsimp only at h0 h2 hC0
  unfold dAr at hC0
  unfold dWt
  refine Fn_ofR (fn := Try.f76) (rs := [.cell 2 32]) tyOk tyPos Try.func76 (by kernel_rfl) rfl rfl (by rw [Try.ntmps76]; exact Nat.le_of_ble_eq_true rfl) rfl (by simp only [szA, List.mem_cons, List.not_mem_nil, or_false, forall_eq_or_imp, forall_eq, VT.cells, szL]; try decide) ?_
  rw [Try.ntmps76]
  simp only [push_cast, ↓brB_true, ↓brB_false, ↓reduceIte, Nat.reduceMod, Nat.reduceMul, Nat.reduceDiv, Nat.reduceAdd, Nat.reduceSub, Nat.reduceEqDiff, Nat.reduceBEq, Nat.reduceLT, Nat.reduceLeDiff, reduceCtorEq]
  refine awp_seq' fun K hK => ?_
  refine awp_region tyOk tyPos [] rfl ?_
  all_goals simp only [push_cast, ↓brB_true, ↓brB_false, ↓reduceIte, Nat.reduceMod, Nat.reduceMul, Nat.reduceDiv, Nat.reduceAdd, Nat.reduceSub, Nat.reduceEqDiff, Nat.reduceBEq, Nat.reduceLT, Nat.reduceLeDiff, reduceCtorEq]
  all_goals repeat' (first | (apply brB_mk <;> (intro hg; (try simp only [push_cast] at hg))) | apply And.intro | (intro hg; (try simp only [push_cast] at hg)))
  all_goals first | exact True.intro | exact rfl | contradiction | omega | with_reducible assumption | (exact getE_dII (by omega)) | skip
  all_goals first | (refine hK _ ?_; clear hK K) | (simp only [push_cast]; done)
  refine awp_seq' fun K hK => ?_
  refine awp_region tyOk tyPos [] rfl ?_
  all_goals refine aops_cut 3 fun K9 hK9 => ?_
  all_goals simp only [push_cast, ↓brB_true, ↓brB_false, ↓reduceIte, Nat.reduceMod, Nat.reduceMul, Nat.reduceDiv, Nat.reduceAdd, Nat.reduceSub, Nat.reduceEqDiff, Nat.reduceBEq, Nat.reduceLT, Nat.reduceLeDiff, reduceCtorEq]
  all_goals repeat' (first | (apply brB_mk <;> (intro hg; (try simp only [push_cast] at hg))) | (refine ⟨_, hC0, ?_⟩; simp only [push_cast, ↓brB_true, ↓brB_false, ↓reduceIte, Nat.reduceMod, Nat.reduceMul, Nat.reduceDiv, Nat.reduceAdd, Nat.reduceSub, Nat.reduceEqDiff, Nat.reduceBEq, Nat.reduceLT, Nat.reduceLeDiff, reduceCtorEq]) | apply And.intro | (intro hg; (try simp only [push_cast] at hg)))
  all_goals first | exact True.intro | exact rfl | contradiction | omega | with_reducible assumption | (exact getE_dII (by omega)) | skip
  all_goals first | (refine hK9 _ ?_; clear hK9 K9) | (simp only [push_cast]; done)
  all_goals simp only [push_cast, ↓brB_true, ↓brB_false, ↓reduceIte, Nat.reduceMod, Nat.reduceMul, Nat.reduceDiv, Nat.reduceAdd, Nat.reduceSub, Nat.reduceEqDiff, Nat.reduceBEq, Nat.reduceLT, Nat.reduceLeDiff, reduceCtorEq]
  all_goals repeat' (first | (apply brB_mk <;> (intro hg; (try simp only [push_cast] at hg))) | (refine ⟨_, hC0, ?_⟩; simp only [push_cast, ↓brB_true, ↓brB_false, ↓reduceIte, Nat.reduceMod, Nat.reduceMul, Nat.reduceDiv, Nat.reduceAdd, Nat.reduceSub, Nat.reduceEqDiff, Nat.reduceBEq, Nat.reduceLT, Nat.reduceLeDiff, reduceCtorEq]) | apply And.intro | (intro hg; (try simp only [push_cast] at hg)))
  all_goals first | exact True.intro | exact rfl | contradiction | omega | with_reducible assumption | (exact getE_dII (by omega)) | skip
  all_goals first | (refine hK _ ?_; clear hK K) | (simp only [push_cast]; done)
  refine awp_seq' fun K1 hK1 => ?_
  refine awp_seq' fun K hK => ?_
  refine awp_region tyOk tyPos [] rfl ?_
  all_goals simp only [push_cast, ↓brB_true, ↓brB_false, ↓reduceIte, Nat.reduceMod, Nat.reduceMul, Nat.reduceDiv, Nat.reduceAdd, Nat.reduceSub, Nat.reduceEqDiff, Nat.reduceBEq, Nat.reduceLT, Nat.reduceLeDiff, reduceCtorEq]
  all_goals repeat' (first | (apply brB_mk <;> (intro hg; (try simp only [push_cast] at hg))) | apply And.intro | (intro hg; (try simp only [push_cast] at hg)))
  all_goals first | exact True.intro | exact rfl | contradiction | omega | with_reducible assumption | (exact getE_dII (by omega)) | skip
  all_goals first | (refine hK _ ?_; clear hK K) | (simp only [push_cast]; done)
  refine awp_block ?_
  refine awp_loopU [3,4,9,10,11,12,13,14,15,16,17,18,19,20,21,22,23,24,25,26] [50] (fun (k : Nat) => [(4, .int .i64 k), (3, .bp 3 0)]) (fun k => [(3, [.sl 48 [] 0 a.owner.length 2, .sl 49 [] 0 a.next.length 22, .sl 50 [] 0 k 22])]) (fun k => [(48, ⟨.ex, 2, dI a.owner, none⟩), (49, ⟨.ex, 22, dII a.next, none⟩), (50, ⟨.ex, 22, dII (xs.take k), none⟩)]) (fun k => k ≤ xs.length) (fun k => xs.length - k) 0 ?_ (by omega) ?_
  ·
    rw [show dII (xs.take 0) = [] from by simp [dII]]
    refine cov_of rfl ?_ ?_ ?_ <;> simp only [covS, covL, push_cast, ↓brB_true, ↓brB_false, ↓reduceIte, Nat.reduceMod, Nat.reduceMul, Nat.reduceDiv, Nat.reduceAdd, Nat.reduceSub, Nat.reduceEqDiff, Nat.reduceBEq, Nat.reduceLT, Nat.reduceLeDiff, reduceCtorEq]
  · rintro k hk KL0 hL0
    have htk : (xs.take k).length = k := by rw [List.length_take]; omega
    have hrk := hr k
    simp only [push_cast, ↓brB_true, ↓brB_false, ↓reduceIte, Nat.reduceMod, Nat.reduceMul, Nat.reduceDiv, Nat.reduceAdd, Nat.reduceSub, Nat.reduceEqDiff, Nat.reduceBEq, Nat.reduceLT, Nat.reduceLeDiff, reduceCtorEq]
    refine awp_seq' fun K2 hK2 => ?_
    refine awp_seq' fun K hK => ?_
    refine awp_region tyOk tyPos [] rfl ?_
    all_goals simp only [push_cast, ↓brB_true, ↓brB_false, ↓reduceIte, Nat.reduceMod, Nat.reduceMul, Nat.reduceDiv, Nat.reduceAdd, Nat.reduceSub, Nat.reduceEqDiff, Nat.reduceBEq, Nat.reduceLT, Nat.reduceLeDiff, reduceCtorEq]
    all_goals repeat' (first | (apply brB_mk <;> (intro hg; (try simp only [push_cast] at hg))) | apply And.intro | (intro hg; (try simp only [push_cast] at hg)))
    all_goals first | exact True.intro | exact rfl | contradiction | omega | with_reducible assumption | (exact getE_dII (by omega)) | skip
    all_goals first | (refine hK _ ?_; clear hK K) | (simp only [push_cast]; done)
    refine awp_cond rfl (fun hc => ?_) (fun hc => ?_) <;> (try simp only [push_cast] at hc)
    ·
      refine awp_skip ?_
      (try simp only [AThen, ABlk, reduceIte, Nat.reduceEqDiff]); refine hK2 _ ?_
      refine awp_seq' fun K3 hK3 => ?_
      refine awp_block ?_
      refine awp_regionD1 false tyOk tyPos tyMix ?_ rfl ?_
      · kernel_rfl
      intro E hE
      all_goals refine lexF_cut 8 (by decide) fun K9 hK9 => ?_
      all_goals simp only [push_cast, ↓brB_true, ↓brB_false, ↓reduceIte, Nat.reduceMod, Nat.reduceMul, Nat.reduceDiv, Nat.reduceAdd, Nat.reduceSub, Nat.reduceEqDiff, Nat.reduceBEq, Nat.reduceLT, Nat.reduceLeDiff, reduceCtorEq]
      all_goals repeat' (first | (apply brB_mk <;> (intro hg; (try simp only [push_cast] at hg))) | (refine ⟨_, hC k, ?_⟩; simp only [push_cast, ↓brB_true, ↓brB_false, ↓reduceIte, Nat.reduceMod, Nat.reduceMul, Nat.reduceDiv, Nat.reduceAdd, Nat.reduceSub, Nat.reduceEqDiff, Nat.reduceBEq, Nat.reduceLT, Nat.reduceLeDiff, reduceCtorEq]) | apply And.intro | (intro hg; (try simp only [push_cast] at hg)))
      all_goals first | exact True.intro | exact rfl | contradiction | omega | with_reducible assumption | (exact getE_dII (by omega)) | skip
      all_goals first | (refine hK9 _ _ ?_; clear hK9 K9) | (simp only [push_cast]; done)
      all_goals simp only [push_cast, ↓brB_true, ↓brB_false, ↓reduceIte, Nat.reduceMod, Nat.reduceMul, Nat.reduceDiv, Nat.reduceAdd, Nat.reduceSub, Nat.reduceEqDiff, Nat.reduceBEq, Nat.reduceLT, Nat.reduceLeDiff, reduceCtorEq]
      all_goals repeat' (first | (apply brB_mk <;> (intro hg; (try simp only [push_cast] at hg))) | (refine ⟨_, hC k, ?_⟩; simp only [push_cast, ↓brB_true, ↓brB_false, ↓reduceIte, Nat.reduceMod, Nat.reduceMul, Nat.reduceDiv, Nat.reduceAdd, Nat.reduceSub, Nat.reduceEqDiff, Nat.reduceBEq, Nat.reduceLT, Nat.reduceLeDiff, reduceCtorEq]) | apply And.intro | (intro hg; (try simp only [push_cast] at hg)))
      all_goals first | exact True.intro | exact rfl | contradiction | omega | with_reducible assumption | (refine hE _ _ ?_ ?_; kernel_rfl) | (exact getE_dII (by omega)) | skip
      all_goals clear hE E
      (try simp only [AThen, ABlk, reduceIte, Nat.reduceEqDiff]); refine hK3 _ ?_
      refine awp_settleB [.sl 2, .sl 22, .sl 22] 3 ?_
      simp only [push_cast, ↓brB_true, ↓brB_false, ↓reduceIte, Nat.reduceMod, Nat.reduceMul, Nat.reduceDiv, Nat.reduceAdd, Nat.reduceSub, Nat.reduceEqDiff, Nat.reduceBEq, Nat.reduceLT, Nat.reduceLeDiff, reduceCtorEq]
      refine awp_region tyOk tyPos [] rfl ?_
      all_goals simp only [push_cast, ↓brB_true, ↓brB_false, ↓reduceIte, Nat.reduceMod, Nat.reduceMul, Nat.reduceDiv, Nat.reduceAdd, Nat.reduceSub, Nat.reduceEqDiff, Nat.reduceBEq, Nat.reduceLT, Nat.reduceLeDiff, reduceCtorEq]
      all_goals repeat' (first | (apply brB_mk <;> (intro hg; (try simp only [push_cast] at hg))) | apply And.intro | (intro hg; (try simp only [push_cast] at hg)))
      all_goals first | exact True.intro | exact rfl | contradiction | omega | with_reducible assumption | (exact getE_dII (by omega)) | skip
      refine hL0 _ ⟨k + 1, by omega, by omega, ?_⟩
      (try rw [List.take_take, Nat.min_self])
      rw [take_snocL (by omega)]
      refine cov_of rfl ?_ ?_ ?_ <;> simp only [covS, covL, push_cast, ↓brB_true, ↓brB_false, ↓reduceIte, Nat.reduceMod, Nat.reduceMul, Nat.reduceDiv, Nat.reduceAdd, Nat.reduceSub, Nat.reduceEqDiff, Nat.reduceBEq, Nat.reduceLT, Nat.reduceLeDiff, reduceCtorEq]
    ·
      refine awp_exit ?_
      have hkk : k = xs.length := by omega
      subst hkk
      rw [List.take_length]
      (try simp only [AThen, ABlk, reduceIte, Nat.reduceEqDiff]); refine hK1 _ ?_
      refine awp_seq' fun K hK => ?_
      refine awp_region tyOk tyPos [] rfl ?_
      all_goals simp only [push_cast, ↓brB_true, ↓brB_false, ↓reduceIte, Nat.reduceMod, Nat.reduceMul, Nat.reduceDiv, Nat.reduceAdd, Nat.reduceSub, Nat.reduceEqDiff, Nat.reduceBEq, Nat.reduceLT, Nat.reduceLeDiff, reduceCtorEq]
      all_goals repeat' (first | (apply brB_mk <;> (intro hg; (try simp only [push_cast] at hg))) | apply And.intro | (intro hg; (try simp only [push_cast] at hg)))
      all_goals first | exact True.intro | exact rfl | contradiction | omega | with_reducible assumption | (exact getE_dII (by omega)) | skip
      all_goals first | (refine hK _ ?_; clear hK K) | (simp only [push_cast]; done)
      refine awp_ret ?_
      (try simp only [AThen, ABlk])
      refine ⟨Or.inl rfl, ?_⟩
      simp only [RetOk, resVars, resVar, push_cast, ↓brB_true, ↓brB_false, ↓reduceIte, Nat.reduceMod, Nat.reduceMul, Nat.reduceDiv, Nat.reduceAdd, Nat.reduceSub, Nat.reduceEqDiff, Nat.reduceBEq, Nat.reduceLT, Nat.reduceLeDiff, reduceCtorEq]
      all_goals first | rfl | skip
def turnA (a : Ar) : Ar := ⟨a.owner.map (fun x => 1 - x), a.next⟩
def dualW (w : Wt) : Wt := if weightedB w then ⟨turnA w.a, w.cost.map (List.map fun x => -x)⟩ else ⟨⟨[], []⟩, []⟩
theorem dualW_no {w : Wt} (h : weightedB w = false) : dualW w = ⟨⟨[], []⟩, []⟩ := by unfold dualW; rw [h]; rfl
theorem dualW_yes {w : Wt} (h : weightedB w = true) : dualW w = ⟨turnA w.a, w.cost.map (List.map fun x => -x)⟩ := by unfold dualW; rw [h]; rfl
theorem sumL_map (g : Int → Int) (xs : List (List Int)) : sumL (xs.map (List.map g)) = sumL xs := by
  induction xs with
  | nil => rfl
  | cons x xs ih => rw [List.map_cons, sumL_cons, sumL_cons, ih, List.length_map]
theorem LnII_map {B : Nat} {g : Int → Int} {xs : List (List Int)} (h : LnII B xs) : LnII B (xs.map (List.map g)) := by
  refine ⟨by rw [List.length_map]; exact h.1, fun r hr => ?_⟩
  obtain ⟨r', h', rfl⟩ := List.mem_map.1 hr
  rw [List.length_map]
  exact h.2 r' h'
theorem dualW_len {w : Wt} (h : w.Ln 1048576) : (dualW w).Ln 1048576 := by
  unfold dualW
  split
  · exact ⟨⟨by show LnI _ _; unfold LnI turnA; rw [List.length_map]; exact h.a.owner, h.a.next⟩, LnII_map h.cost⟩
  · exact ⟨⟨by unfold LnI; simp, ⟨by simp, by simp⟩⟩, ⟨by simp, by simp⟩⟩
set_option maxRecDepth 20000 in
set_option maxHeartbeats 4000000 in
theorem TurnedI_fn (a : Ar) (ha : a.Ln 1048576) (hok : arenaB a = true) : Fn Try.prog tyT 78 [.agg (dAr a)] [.agg (dAr (turnA a))] := by
  have h0 := ha.owner
  have h1 := ha.next.1
  unfold LnI at h0
  have hal := arenaB_len hok
  have hat := fun v (hv : v < a.owner.length) => arenaB_at hok hv
  have hO := ArenaOkI_fn a ha
  rw [hok] at hO
  have hC := copyArena_fn a ha
  unfold turnA
  unfold dAr at hO hC ⊢
  refine Fn_ofR (fn := Try.f78) (rs := [.cell 2 30]) tyOk tyPos Try.func78 (by kernel_rfl) rfl rfl (by rw [Try.ntmps78]; exact Nat.le_of_ble_eq_true rfl) rfl (by simp only [szA, List.mem_cons, List.not_mem_nil, or_false, forall_eq_or_imp, forall_eq, VT.cells, szL]; try decide) ?_
  rw [Try.ntmps78]
  simp only [push_cast, ↓brB_true, ↓brB_false, ↓reduceIte, Nat.reduceMod, Nat.reduceMul, Nat.reduceDiv, Nat.reduceAdd, Nat.reduceSub, Nat.reduceEqDiff, Nat.reduceBEq, Nat.reduceLT, Nat.reduceLeDiff, reduceCtorEq]
  refine awp_seq' fun K hK => ?_
  refine awp_region tyOk tyPos [] rfl ?_
  all_goals simp only [push_cast, ↓brB_true, ↓brB_false, ↓reduceIte, Nat.reduceMod, Nat.reduceMul, Nat.reduceDiv, Nat.reduceAdd, Nat.reduceSub, Nat.reduceEqDiff, Nat.reduceBEq, Nat.reduceLT, Nat.reduceLeDiff, reduceCtorEq]
  all_goals repeat' (first | (apply brB_mk <;> (intro hg; (try simp only [push_cast] at hg))) | apply And.intro | (intro hg; (try simp only [push_cast] at hg)))
  all_goals first | exact True.intro | exact rfl | contradiction | omega | with_reducible assumption | (rw [hmg (by omega)]; have := hat k (by omega); omega) | skip
  all_goals first | (refine hK _ ?_; clear hK K) | (simp only [push_cast]; done)
  refine awp_seq' fun K1 hK1 => ?_
  refine awp_seq' fun K hK => ?_
  refine awp_region tyOk tyPos [] rfl ?_
  all_goals refine aops_cut 2 fun K9 hK9 => ?_
  all_goals simp only [push_cast, ↓brB_true, ↓brB_false, ↓reduceIte, Nat.reduceMod, Nat.reduceMul, Nat.reduceDiv, Nat.reduceAdd, Nat.reduceSub, Nat.reduceEqDiff, Nat.reduceBEq, Nat.reduceLT, Nat.reduceLeDiff, reduceCtorEq]
  all_goals repeat' (first | (apply brB_mk <;> (intro hg; (try simp only [push_cast] at hg))) | (refine ⟨_, hO, ?_⟩; simp only [push_cast, ↓brB_true, ↓brB_false, ↓reduceIte, Nat.reduceMod, Nat.reduceMul, Nat.reduceDiv, Nat.reduceAdd, Nat.reduceSub, Nat.reduceEqDiff, Nat.reduceBEq, Nat.reduceLT, Nat.reduceLeDiff, reduceCtorEq]) | apply And.intro | (intro hg; (try simp only [push_cast] at hg)))
  all_goals first | exact True.intro | exact rfl | contradiction | omega | with_reducible assumption | (rw [hmg (by omega)]; have := hat k (by omega); omega) | skip
  all_goals first | (refine hK9 _ ?_; clear hK9 K9) | (simp only [push_cast]; done)
  all_goals simp only [push_cast, ↓brB_true, ↓brB_false, ↓reduceIte, Nat.reduceMod, Nat.reduceMul, Nat.reduceDiv, Nat.reduceAdd, Nat.reduceSub, Nat.reduceEqDiff, Nat.reduceBEq, Nat.reduceLT, Nat.reduceLeDiff, reduceCtorEq]
  all_goals repeat' (first | (apply brB_mk <;> (intro hg; (try simp only [push_cast] at hg))) | (refine ⟨_, hO, ?_⟩; simp only [push_cast, ↓brB_true, ↓brB_false, ↓reduceIte, Nat.reduceMod, Nat.reduceMul, Nat.reduceDiv, Nat.reduceAdd, Nat.reduceSub, Nat.reduceEqDiff, Nat.reduceBEq, Nat.reduceLT, Nat.reduceLeDiff, reduceCtorEq]) | apply And.intro | (intro hg; (try simp only [push_cast] at hg)))
  all_goals first | exact True.intro | exact rfl | contradiction | omega | with_reducible assumption | (rw [hmg (by omega)]; have := hat k (by omega); omega) | skip
  all_goals first | (refine hK _ ?_; clear hK K) | (simp only [push_cast]; done)
  refine awp_cond rfl (fun hc => ?_) (fun hc => ?_)
  skip
  · exfalso; first | (cases hc; done) | (simp only [push_cast] at hc; done) | (simp only [push_cast] at hc; omega) | omega
  refine awp_skip ?_
  (try simp only [AThen, ABlk, reduceIte, Nat.reduceEqDiff]); refine hK1 _ ?_
  refine awp_seq' fun K hK => ?_
  refine awp_region tyOk tyPos [] rfl ?_
  all_goals refine aops_cut 2 fun K9 hK9 => ?_
  all_goals simp only [push_cast, ↓brB_true, ↓brB_false, ↓reduceIte, Nat.reduceMod, Nat.reduceMul, Nat.reduceDiv, Nat.reduceAdd, Nat.reduceSub, Nat.reduceEqDiff, Nat.reduceBEq, Nat.reduceLT, Nat.reduceLeDiff, reduceCtorEq]
  all_goals repeat' (first | (apply brB_mk <;> (intro hg; (try simp only [push_cast] at hg))) | (refine ⟨_, hC, ?_⟩; simp only [push_cast, ↓brB_true, ↓brB_false, ↓reduceIte, Nat.reduceMod, Nat.reduceMul, Nat.reduceDiv, Nat.reduceAdd, Nat.reduceSub, Nat.reduceEqDiff, Nat.reduceBEq, Nat.reduceLT, Nat.reduceLeDiff, reduceCtorEq]) | apply And.intro | (intro hg; (try simp only [push_cast] at hg)))
  all_goals first | exact True.intro | exact rfl | contradiction | omega | with_reducible assumption | (rw [hmg (by omega)]; have := hat k (by omega); omega) | skip
  all_goals first | (refine hK9 _ ?_; clear hK9 K9) | (simp only [push_cast]; done)
  all_goals simp only [push_cast, ↓brB_true, ↓brB_false, ↓reduceIte, Nat.reduceMod, Nat.reduceMul, Nat.reduceDiv, Nat.reduceAdd, Nat.reduceSub, Nat.reduceEqDiff, Nat.reduceBEq, Nat.reduceLT, Nat.reduceLeDiff, reduceCtorEq]
  all_goals repeat' (first | (apply brB_mk <;> (intro hg; (try simp only [push_cast] at hg))) | (refine ⟨_, hC, ?_⟩; simp only [push_cast, ↓brB_true, ↓brB_false, ↓reduceIte, Nat.reduceMod, Nat.reduceMul, Nat.reduceDiv, Nat.reduceAdd, Nat.reduceSub, Nat.reduceEqDiff, Nat.reduceBEq, Nat.reduceLT, Nat.reduceLeDiff, reduceCtorEq]) | apply And.intro | (intro hg; (try simp only [push_cast] at hg)))
  all_goals first | exact True.intro | exact rfl | contradiction | omega | with_reducible assumption | (rw [hmg (by omega)]; have := hat k (by omega); omega) | skip
  all_goals first | (refine hK _ ?_; clear hK K) | (simp only [push_cast]; done)
  refine awp_seq' fun K2 hK2 => ?_
  refine awp_seq' fun K hK => ?_
  refine awp_region tyOk tyPos [] rfl ?_
  all_goals simp only [push_cast, ↓brB_true, ↓brB_false, ↓reduceIte, Nat.reduceMod, Nat.reduceMul, Nat.reduceDiv, Nat.reduceAdd, Nat.reduceSub, Nat.reduceEqDiff, Nat.reduceBEq, Nat.reduceLT, Nat.reduceLeDiff, reduceCtorEq]
  all_goals repeat' (first | (apply brB_mk <;> (intro hg; (try simp only [push_cast] at hg))) | apply And.intro | (intro hg; (try simp only [push_cast] at hg)))
  all_goals first | exact True.intro | exact rfl | contradiction | omega | with_reducible assumption | (rw [hmg (by omega)]; have := hat k (by omega); omega) | skip
  all_goals first | (refine hK _ ?_; clear hK K) | (simp only [push_cast]; done)
  refine awp_block ?_
  refine awp_loopU [3,4,14,15,16,17,18,19,20,21,22,23,24,25,26,27] [48] (fun (k : Nat) => [(14, .int .i64 k), (3, .bp 3 0)]) (fun k => [(3, [.sl 48 [] 0 a.owner.length 2, .sl 49 [] 0 a.next.length 22])]) (fun k => [(48, ⟨.ex, 2, dI (mapI (fun x => 1 - x) a.owner k), none⟩), (49, ⟨.ex, 22, dII a.next, none⟩)]) (fun k => k ≤ a.owner.length) (fun k => a.owner.length - k) 0 ?_ (by omega) ?_
  ·
    rw [mapI_0]
    refine cov_of rfl ?_ ?_ ?_ <;> simp only [covS, covL, push_cast, ↓brB_true, ↓brB_false, ↓reduceIte, Nat.reduceMod, Nat.reduceMul, Nat.reduceDiv, Nat.reduceAdd, Nat.reduceSub, Nat.reduceEqDiff, Nat.reduceBEq, Nat.reduceLT, Nat.reduceLeDiff, reduceCtorEq]
  · rintro k hk KL0 hL0
    have hml := mapI_len (g := fun x => 1 - x) hk
    have hmg : k < a.owner.length → gi (mapI (fun x => 1 - x) a.owner k) k = gi a.owner k := fun h => mapI_gi h
    simp only [push_cast, ↓brB_true, ↓brB_false, ↓reduceIte, Nat.reduceMod, Nat.reduceMul, Nat.reduceDiv, Nat.reduceAdd, Nat.reduceSub, Nat.reduceEqDiff, Nat.reduceBEq, Nat.reduceLT, Nat.reduceLeDiff, reduceCtorEq]
    refine awp_seq' fun K hK => ?_
    refine awp_region tyOk tyPos [] rfl ?_
    all_goals simp only [push_cast, ↓brB_true, ↓brB_false, ↓reduceIte, Nat.reduceMod, Nat.reduceMul, Nat.reduceDiv, Nat.reduceAdd, Nat.reduceSub, Nat.reduceEqDiff, Nat.reduceBEq, Nat.reduceLT, Nat.reduceLeDiff, reduceCtorEq]
    all_goals repeat' (first | (apply brB_mk <;> (intro hg; (try simp only [push_cast] at hg))) | apply And.intro | (intro hg; (try simp only [push_cast] at hg)))
    all_goals first | exact True.intro | exact rfl | contradiction | omega | with_reducible assumption | (rw [hmg (by omega)]; have := hat k (by omega); omega) | skip
    all_goals first | (refine hK _ ?_; clear hK K) | (simp only [push_cast]; done)
    refine awp_seq' fun K3 hK3 => ?_
    refine awp_cond rfl (fun hc => ?_) (fun hc => ?_) <;> (try simp only [push_cast] at hc)
    ·
      refine awp_skip ?_
      (try simp only [AThen, ABlk, reduceIte, Nat.reduceEqDiff]); refine hK3 _ ?_
      refine awp_seq' fun K4 hK4 => ?_
      refine awp_block ?_
      refine awp_seq' fun K hK => ?_
      refine awp_region tyOk tyPos [] rfl ?_
      all_goals simp only [push_cast, ↓brB_true, ↓brB_false, ↓reduceIte, Nat.reduceMod, Nat.reduceMul, Nat.reduceDiv, Nat.reduceAdd, Nat.reduceSub, Nat.reduceEqDiff, Nat.reduceBEq, Nat.reduceLT, Nat.reduceLeDiff, reduceCtorEq]
      all_goals repeat' (first | (apply brB_mk <;> (intro hg; (try simp only [push_cast] at hg))) | apply And.intro | (intro hg; (try simp only [push_cast] at hg)))
      all_goals first | exact True.intro | exact rfl | contradiction | omega | with_reducible assumption | (rw [hmg (by omega)]; have := hat k (by omega); omega) | skip
      all_goals first | (refine hK _ ?_; clear hK K) | (simp only [push_cast]; done)
      refine awp_regionD1 false tyOk tyPos tyMix ?_ rfl ?_
      · kernel_rfl
      intro E hE
      all_goals simp only [push_cast, ↓brB_true, ↓brB_false, ↓reduceIte, Nat.reduceMod, Nat.reduceMul, Nat.reduceDiv, Nat.reduceAdd, Nat.reduceSub, Nat.reduceEqDiff, Nat.reduceBEq, Nat.reduceLT, Nat.reduceLeDiff, reduceCtorEq]
      all_goals repeat' (first | (apply brB_mk <;> (intro hg; (try simp only [push_cast] at hg))) | apply And.intro | (intro hg; (try simp only [push_cast] at hg)))
      all_goals first | exact True.intro | exact rfl | contradiction | omega | with_reducible assumption | (refine hE _ _ ?_ ?_; kernel_rfl) | (rw [hmg (by omega)]; have := hat k (by omega); omega) | skip
      all_goals clear hE E
      (try simp only [AThen, ABlk, reduceIte, Nat.reduceEqDiff]); refine hK4 _ ?_
      refine awp_region tyOk tyPos [] rfl ?_
      all_goals simp only [push_cast, ↓brB_true, ↓brB_false, ↓reduceIte, Nat.reduceMod, Nat.reduceMul, Nat.reduceDiv, Nat.reduceAdd, Nat.reduceSub, Nat.reduceEqDiff, Nat.reduceBEq, Nat.reduceLT, Nat.reduceLeDiff, reduceCtorEq]
      all_goals repeat' (first | (apply brB_mk <;> (intro hg; (try simp only [push_cast] at hg))) | apply And.intro | (intro hg; (try simp only [push_cast] at hg)))
      all_goals first | exact True.intro | exact rfl | contradiction | omega | with_reducible assumption | (rw [hmg (by omega)]; have := hat k (by omega); omega) | skip
      rw [hmg (by omega), show (1 : Int) - gi a.owner k = (fun x => 1 - x) (gi a.owner k) from rfl, mapI_set (by omega)]
      refine hL0 _ ⟨k + 1, by omega, by omega, ?_⟩
      refine cov_of rfl ?_ ?_ ?_ <;> simp only [covS, covL, push_cast, ↓brB_true, ↓brB_false, ↓reduceIte, Nat.reduceMod, Nat.reduceMul, Nat.reduceDiv, Nat.reduceAdd, Nat.reduceSub, Nat.reduceEqDiff, Nat.reduceBEq, Nat.reduceLT, Nat.reduceLeDiff, reduceCtorEq]
    ·
      refine awp_exit ?_
      have hkk : k = a.owner.length := by omega
      subst hkk
      rw [mapI_all]
      (try simp only [AThen, ABlk, reduceIte, Nat.reduceEqDiff]); refine hK2 _ ?_
      refine awp_seq' fun K hK => ?_
      refine awp_region tyOk tyPos [] rfl ?_
      all_goals simp only [push_cast, ↓brB_true, ↓brB_false, ↓reduceIte, Nat.reduceMod, Nat.reduceMul, Nat.reduceDiv, Nat.reduceAdd, Nat.reduceSub, Nat.reduceEqDiff, Nat.reduceBEq, Nat.reduceLT, Nat.reduceLeDiff, reduceCtorEq]
      all_goals repeat' (first | (apply brB_mk <;> (intro hg; (try simp only [push_cast] at hg))) | apply And.intro | (intro hg; (try simp only [push_cast] at hg)))
      all_goals first | exact True.intro | exact rfl | contradiction | omega | with_reducible assumption | (rw [hmg (by omega)]; have := hat k (by omega); omega) | skip
      all_goals first | (refine hK _ ?_; clear hK K) | (simp only [push_cast]; done)
      refine awp_ret ?_
      (try simp only [AThen, ABlk])
      refine ⟨Or.inl rfl, ?_⟩
      simp only [RetOk, resVars, resVar, push_cast, ↓brB_true, ↓brB_false, ↓reduceIte, Nat.reduceMod, Nat.reduceMul, Nat.reduceDiv, Nat.reduceAdd, Nat.reduceSub, Nat.reduceEqDiff, Nat.reduceBEq, Nat.reduceLT, Nat.reduceLeDiff, reduceCtorEq]
      all_goals first | rfl | (simp; done)
set_option maxRecDepth 20000 in
set_option maxHeartbeats 4000000 in
theorem TurnedS_fn (a : Ar) (ha : a.Ln 1048576) (hok : arenaB a = true) : Fn Try.prog tyT 77 [.agg (dAr a)] [.agg (dAr (turnA a))] := by
  have h0 := ha.owner
  have h1 := ha.next.1
  unfold LnI at h0
  have hal := arenaB_len hok
  have hat := fun v (hv : v < a.owner.length) => arenaB_at hok hv
  have hO := ArenaOkS_fn a ha
  rw [hok] at hO
  have hC := l1CopyArena_fn a ha
  unfold turnA
  unfold dAr at hO hC ⊢
  refine Fn_ofR (fn := Try.f77) (rs := [.cell 2 30]) tyOk tyPos Try.func77 (by kernel_rfl) rfl rfl (by rw [Try.ntmps77]; exact Nat.le_of_ble_eq_true rfl) rfl (by simp only [szA, List.mem_cons, List.not_mem_nil, or_false, forall_eq_or_imp, forall_eq, VT.cells, szL]; try decide) ?_
  rw [Try.ntmps77]
  simp only [push_cast, ↓brB_true, ↓brB_false, ↓reduceIte, Nat.reduceMod, Nat.reduceMul, Nat.reduceDiv, Nat.reduceAdd, Nat.reduceSub, Nat.reduceEqDiff, Nat.reduceBEq, Nat.reduceLT, Nat.reduceLeDiff, reduceCtorEq]
  refine awp_seq' fun K hK => ?_
  refine awp_region tyOk tyPos [] rfl ?_
  all_goals simp only [push_cast, ↓brB_true, ↓brB_false, ↓reduceIte, Nat.reduceMod, Nat.reduceMul, Nat.reduceDiv, Nat.reduceAdd, Nat.reduceSub, Nat.reduceEqDiff, Nat.reduceBEq, Nat.reduceLT, Nat.reduceLeDiff, reduceCtorEq]
  all_goals repeat' (first | (apply brB_mk <;> (intro hg; (try simp only [push_cast] at hg))) | apply And.intro | (intro hg; (try simp only [push_cast] at hg)))
  all_goals first | exact True.intro | exact rfl | contradiction | omega | with_reducible assumption | (rw [hmg (by omega)]; have := hat k (by omega); omega) | skip
  all_goals first | (refine hK _ ?_; clear hK K) | (simp only [push_cast]; done)
  refine awp_seq' fun K1 hK1 => ?_
  refine awp_seq' fun K hK => ?_
  refine awp_region tyOk tyPos [] rfl ?_
  all_goals refine aops_cut 2 fun K9 hK9 => ?_
  all_goals simp only [push_cast, ↓brB_true, ↓brB_false, ↓reduceIte, Nat.reduceMod, Nat.reduceMul, Nat.reduceDiv, Nat.reduceAdd, Nat.reduceSub, Nat.reduceEqDiff, Nat.reduceBEq, Nat.reduceLT, Nat.reduceLeDiff, reduceCtorEq]
  all_goals repeat' (first | (apply brB_mk <;> (intro hg; (try simp only [push_cast] at hg))) | (refine ⟨_, hO, ?_⟩; simp only [push_cast, ↓brB_true, ↓brB_false, ↓reduceIte, Nat.reduceMod, Nat.reduceMul, Nat.reduceDiv, Nat.reduceAdd, Nat.reduceSub, Nat.reduceEqDiff, Nat.reduceBEq, Nat.reduceLT, Nat.reduceLeDiff, reduceCtorEq]) | apply And.intro | (intro hg; (try simp only [push_cast] at hg)))
  all_goals first | exact True.intro | exact rfl | contradiction | omega | with_reducible assumption | (rw [hmg (by omega)]; have := hat k (by omega); omega) | skip
  all_goals first | (refine hK9 _ ?_; clear hK9 K9) | (simp only [push_cast]; done)
  all_goals simp only [push_cast, ↓brB_true, ↓brB_false, ↓reduceIte, Nat.reduceMod, Nat.reduceMul, Nat.reduceDiv, Nat.reduceAdd, Nat.reduceSub, Nat.reduceEqDiff, Nat.reduceBEq, Nat.reduceLT, Nat.reduceLeDiff, reduceCtorEq]
  all_goals repeat' (first | (apply brB_mk <;> (intro hg; (try simp only [push_cast] at hg))) | (refine ⟨_, hO, ?_⟩; simp only [push_cast, ↓brB_true, ↓brB_false, ↓reduceIte, Nat.reduceMod, Nat.reduceMul, Nat.reduceDiv, Nat.reduceAdd, Nat.reduceSub, Nat.reduceEqDiff, Nat.reduceBEq, Nat.reduceLT, Nat.reduceLeDiff, reduceCtorEq]) | apply And.intro | (intro hg; (try simp only [push_cast] at hg)))
  all_goals first | exact True.intro | exact rfl | contradiction | omega | with_reducible assumption | (rw [hmg (by omega)]; have := hat k (by omega); omega) | skip
  all_goals first | (refine hK _ ?_; clear hK K) | (simp only [push_cast]; done)
  refine awp_cond rfl (fun hc => ?_) (fun hc => ?_)
  skip
  · exfalso; first | (cases hc; done) | (simp only [push_cast] at hc; done) | (simp only [push_cast] at hc; omega) | omega
  refine awp_skip ?_
  (try simp only [AThen, ABlk, reduceIte, Nat.reduceEqDiff]); refine hK1 _ ?_
  refine awp_seq' fun K hK => ?_
  refine awp_region tyOk tyPos [] rfl ?_
  all_goals refine aops_cut 2 fun K9 hK9 => ?_
  all_goals simp only [push_cast, ↓brB_true, ↓brB_false, ↓reduceIte, Nat.reduceMod, Nat.reduceMul, Nat.reduceDiv, Nat.reduceAdd, Nat.reduceSub, Nat.reduceEqDiff, Nat.reduceBEq, Nat.reduceLT, Nat.reduceLeDiff, reduceCtorEq]
  all_goals repeat' (first | (apply brB_mk <;> (intro hg; (try simp only [push_cast] at hg))) | (refine ⟨_, hC, ?_⟩; simp only [push_cast, ↓brB_true, ↓brB_false, ↓reduceIte, Nat.reduceMod, Nat.reduceMul, Nat.reduceDiv, Nat.reduceAdd, Nat.reduceSub, Nat.reduceEqDiff, Nat.reduceBEq, Nat.reduceLT, Nat.reduceLeDiff, reduceCtorEq]) | apply And.intro | (intro hg; (try simp only [push_cast] at hg)))
  all_goals first | exact True.intro | exact rfl | contradiction | omega | with_reducible assumption | (rw [hmg (by omega)]; have := hat k (by omega); omega) | skip
  all_goals first | (refine hK9 _ ?_; clear hK9 K9) | (simp only [push_cast]; done)
  all_goals simp only [push_cast, ↓brB_true, ↓brB_false, ↓reduceIte, Nat.reduceMod, Nat.reduceMul, Nat.reduceDiv, Nat.reduceAdd, Nat.reduceSub, Nat.reduceEqDiff, Nat.reduceBEq, Nat.reduceLT, Nat.reduceLeDiff, reduceCtorEq]
  all_goals repeat' (first | (apply brB_mk <;> (intro hg; (try simp only [push_cast] at hg))) | (refine ⟨_, hC, ?_⟩; simp only [push_cast, ↓brB_true, ↓brB_false, ↓reduceIte, Nat.reduceMod, Nat.reduceMul, Nat.reduceDiv, Nat.reduceAdd, Nat.reduceSub, Nat.reduceEqDiff, Nat.reduceBEq, Nat.reduceLT, Nat.reduceLeDiff, reduceCtorEq]) | apply And.intro | (intro hg; (try simp only [push_cast] at hg)))
  all_goals first | exact True.intro | exact rfl | contradiction | omega | with_reducible assumption | (rw [hmg (by omega)]; have := hat k (by omega); omega) | skip
  all_goals first | (refine hK _ ?_; clear hK K) | (simp only [push_cast]; done)
  refine awp_seq' fun K2 hK2 => ?_
  refine awp_seq' fun K hK => ?_
  refine awp_region tyOk tyPos [] rfl ?_
  all_goals simp only [push_cast, ↓brB_true, ↓brB_false, ↓reduceIte, Nat.reduceMod, Nat.reduceMul, Nat.reduceDiv, Nat.reduceAdd, Nat.reduceSub, Nat.reduceEqDiff, Nat.reduceBEq, Nat.reduceLT, Nat.reduceLeDiff, reduceCtorEq]
  all_goals repeat' (first | (apply brB_mk <;> (intro hg; (try simp only [push_cast] at hg))) | apply And.intro | (intro hg; (try simp only [push_cast] at hg)))
  all_goals first | exact True.intro | exact rfl | contradiction | omega | with_reducible assumption | (rw [hmg (by omega)]; have := hat k (by omega); omega) | skip
  all_goals first | (refine hK _ ?_; clear hK K) | (simp only [push_cast]; done)
  refine awp_block ?_
  refine awp_loopU [3,4,11,12,13,14,15,16,17,18,19,20,21,22,23,24,25,26,27] [48] (fun (k : Nat) => [(4, .int .i64 k), (3, .bp 3 0)]) (fun k => [(3, [.sl 48 [] 0 a.owner.length 2, .sl 49 [] 0 a.next.length 22])]) (fun k => [(48, ⟨.ex, 2, dI (mapI (fun x => 1 - x) a.owner k), none⟩), (49, ⟨.ex, 22, dII a.next, none⟩)]) (fun k => k ≤ a.owner.length) (fun k => a.owner.length - k) 0 ?_ (by omega) ?_
  ·
    rw [mapI_0]
    refine cov_of rfl ?_ ?_ ?_ <;> simp only [covS, covL, push_cast, ↓brB_true, ↓brB_false, ↓reduceIte, Nat.reduceMod, Nat.reduceMul, Nat.reduceDiv, Nat.reduceAdd, Nat.reduceSub, Nat.reduceEqDiff, Nat.reduceBEq, Nat.reduceLT, Nat.reduceLeDiff, reduceCtorEq]
  · rintro k hk KL0 hL0
    have hml := mapI_len (g := fun x => 1 - x) hk
    have hmg : k < a.owner.length → gi (mapI (fun x => 1 - x) a.owner k) k = gi a.owner k := fun h => mapI_gi h
    simp only [push_cast, ↓brB_true, ↓brB_false, ↓reduceIte, Nat.reduceMod, Nat.reduceMul, Nat.reduceDiv, Nat.reduceAdd, Nat.reduceSub, Nat.reduceEqDiff, Nat.reduceBEq, Nat.reduceLT, Nat.reduceLeDiff, reduceCtorEq]
    refine awp_seq' fun K3 hK3 => ?_
    refine awp_seq' fun K hK => ?_
    refine awp_region tyOk tyPos [] rfl ?_
    all_goals simp only [push_cast, ↓brB_true, ↓brB_false, ↓reduceIte, Nat.reduceMod, Nat.reduceMul, Nat.reduceDiv, Nat.reduceAdd, Nat.reduceSub, Nat.reduceEqDiff, Nat.reduceBEq, Nat.reduceLT, Nat.reduceLeDiff, reduceCtorEq]
    all_goals repeat' (first | (apply brB_mk <;> (intro hg; (try simp only [push_cast] at hg))) | apply And.intro | (intro hg; (try simp only [push_cast] at hg)))
    all_goals first | exact True.intro | exact rfl | contradiction | omega | with_reducible assumption | (rw [hmg (by omega)]; have := hat k (by omega); omega) | skip
    all_goals first | (refine hK _ ?_; clear hK K) | (simp only [push_cast]; done)
    refine awp_cond rfl (fun hc => ?_) (fun hc => ?_) <;> (try simp only [push_cast] at hc)
    ·
      refine awp_skip ?_
      (try simp only [AThen, ABlk, reduceIte, Nat.reduceEqDiff]); refine hK3 _ ?_
      refine awp_seq' fun K4 hK4 => ?_
      refine awp_block ?_
      refine awp_regionD1 false tyOk tyPos tyMix ?_ rfl ?_
      · kernel_rfl
      intro E hE
      all_goals simp only [push_cast, ↓brB_true, ↓brB_false, ↓reduceIte, Nat.reduceMod, Nat.reduceMul, Nat.reduceDiv, Nat.reduceAdd, Nat.reduceSub, Nat.reduceEqDiff, Nat.reduceBEq, Nat.reduceLT, Nat.reduceLeDiff, reduceCtorEq]
      all_goals repeat' (first | (apply brB_mk <;> (intro hg; (try simp only [push_cast] at hg))) | apply And.intro | (intro hg; (try simp only [push_cast] at hg)))
      all_goals first | exact True.intro | exact rfl | contradiction | omega | with_reducible assumption | (refine hE _ _ ?_ ?_; kernel_rfl) | (rw [hmg (by omega)]; have := hat k (by omega); omega) | skip
      all_goals clear hE E
      (try simp only [AThen, ABlk, reduceIte, Nat.reduceEqDiff]); refine hK4 _ ?_
      refine awp_region tyOk tyPos [] rfl ?_
      all_goals simp only [push_cast, ↓brB_true, ↓brB_false, ↓reduceIte, Nat.reduceMod, Nat.reduceMul, Nat.reduceDiv, Nat.reduceAdd, Nat.reduceSub, Nat.reduceEqDiff, Nat.reduceBEq, Nat.reduceLT, Nat.reduceLeDiff, reduceCtorEq]
      all_goals repeat' (first | (apply brB_mk <;> (intro hg; (try simp only [push_cast] at hg))) | apply And.intro | (intro hg; (try simp only [push_cast] at hg)))
      all_goals first | exact True.intro | exact rfl | contradiction | omega | with_reducible assumption | (rw [hmg (by omega)]; have := hat k (by omega); omega) | skip
      rw [hmg (by omega), show (1 : Int) - gi a.owner k = (fun x => 1 - x) (gi a.owner k) from rfl, mapI_set (by omega)]
      refine hL0 _ ⟨k + 1, by omega, by omega, ?_⟩
      refine cov_of rfl ?_ ?_ ?_ <;> simp only [covS, covL, push_cast, ↓brB_true, ↓brB_false, ↓reduceIte, Nat.reduceMod, Nat.reduceMul, Nat.reduceDiv, Nat.reduceAdd, Nat.reduceSub, Nat.reduceEqDiff, Nat.reduceBEq, Nat.reduceLT, Nat.reduceLeDiff, reduceCtorEq]
    ·
      refine awp_exit ?_
      have hkk : k = a.owner.length := by omega
      subst hkk
      rw [mapI_all]
      (try simp only [AThen, ABlk, reduceIte, Nat.reduceEqDiff]); refine hK2 _ ?_
      refine awp_seq' fun K hK => ?_
      refine awp_region tyOk tyPos [] rfl ?_
      all_goals simp only [push_cast, ↓brB_true, ↓brB_false, ↓reduceIte, Nat.reduceMod, Nat.reduceMul, Nat.reduceDiv, Nat.reduceAdd, Nat.reduceSub, Nat.reduceEqDiff, Nat.reduceBEq, Nat.reduceLT, Nat.reduceLeDiff, reduceCtorEq]
      all_goals repeat' (first | (apply brB_mk <;> (intro hg; (try simp only [push_cast] at hg))) | apply And.intro | (intro hg; (try simp only [push_cast] at hg)))
      all_goals first | exact True.intro | exact rfl | contradiction | omega | with_reducible assumption | (rw [hmg (by omega)]; have := hat k (by omega); omega) | skip
      all_goals first | (refine hK _ ?_; clear hK K) | (simp only [push_cast]; done)
      refine awp_ret ?_
      (try simp only [AThen, ABlk])
      refine ⟨Or.inl rfl, ?_⟩
      simp only [RetOk, resVars, resVar, push_cast, ↓brB_true, ↓brB_false, ↓reduceIte, Nat.reduceMod, Nat.reduceMul, Nat.reduceDiv, Nat.reduceAdd, Nat.reduceSub, Nat.reduceEqDiff, Nat.reduceBEq, Nat.reduceLT, Nat.reduceLeDiff, reduceCtorEq]
      all_goals first | rfl | (simp; done)
set_option maxRecDepth 20000 in
set_option maxHeartbeats 4000000 in
theorem DualI_fn1 (w : Wt) (ha : w.Ln 1048576) (hw : weightedB w = true) : Fn Try.prog tyT 30 [.agg (dWt w)] [.agg (dWt ⟨turnA w.a, w.cost.map (List.map fun x => -x)⟩)] := by
  have h0 := ha.a.owner
  have h1 := ha.a.next.1
  have h2 := ha.cost.1
  unfold LnI at h0
  have hcr : ∀ v, (gl w.cost v).length ≤ 1048576 := fun v => gl_le ha.cost v
  obtain ⟨hok, hn1, hn2, hn3, hn4, hrow⟩ := weighted_facts hw
  have hW := isWeighted_fn w ha
  have hT := TurnedI_fn w.a ha.a hok
  have hC := copyLists_fn w.cost ha.cost
  unfold dAr at hT
  rw [hw] at hW
  unfold turnA at hT ⊢
  unfold dWt at hW ⊢
  dsimp only at hT ⊢
  refine Fn_ofR (fn := Try.f30) (rs := [.cell 2 32]) tyOk tyPos Try.func30 (by kernel_rfl) rfl rfl (by rw [Try.ntmps30]; exact Nat.le_of_ble_eq_true rfl) rfl (by simp only [szA, List.mem_cons, List.not_mem_nil, or_false, forall_eq_or_imp, forall_eq, VT.cells, szL]; try decide) ?_
  rw [Try.ntmps30]
  simp only [push_cast, ↓brB_true, ↓brB_false, ↓reduceIte, Nat.reduceMod, Nat.reduceMul, Nat.reduceDiv, Nat.reduceAdd, Nat.reduceSub, Nat.reduceEqDiff, Nat.reduceBEq, Nat.reduceLT, Nat.reduceLeDiff, reduceCtorEq]
  refine awp_seq' fun K hK => ?_
  refine awp_region tyOk tyPos [] rfl ?_
  all_goals simp only [push_cast, ↓brB_true, ↓brB_false, ↓reduceIte, Nat.reduceMod, Nat.reduceMul, Nat.reduceDiv, Nat.reduceAdd, Nat.reduceSub, Nat.reduceEqDiff, Nat.reduceBEq, Nat.reduceLT, Nat.reduceLeDiff, reduceCtorEq]
  all_goals repeat' (first | (apply brB_mk <;> (intro hg; (try simp only [push_cast] at hg))) | apply And.intro | (intro hg; (try simp only [push_cast] at hg)))
  all_goals first | exact True.intro | exact rfl | contradiction | omega | with_reducible assumption | (exact getE_dII (by omega)) | (have h8 := hvi (by omega); have := hcst (by omega); omega) | skip
  all_goals first | (refine hK _ ?_; clear hK K) | (simp only [push_cast]; done)
  refine awp_seq' fun K1 hK1 => ?_
  refine awp_seq' fun K hK => ?_
  refine awp_region tyOk tyPos [] rfl ?_
  all_goals refine aops_cut 2 fun K9 hK9 => ?_
  all_goals simp only [push_cast, ↓brB_true, ↓brB_false, ↓reduceIte, Nat.reduceMod, Nat.reduceMul, Nat.reduceDiv, Nat.reduceAdd, Nat.reduceSub, Nat.reduceEqDiff, Nat.reduceBEq, Nat.reduceLT, Nat.reduceLeDiff, reduceCtorEq]
  all_goals repeat' (first | (apply brB_mk <;> (intro hg; (try simp only [push_cast] at hg))) | (refine ⟨_, hW, ?_⟩; simp only [push_cast, ↓brB_true, ↓brB_false, ↓reduceIte, Nat.reduceMod, Nat.reduceMul, Nat.reduceDiv, Nat.reduceAdd, Nat.reduceSub, Nat.reduceEqDiff, Nat.reduceBEq, Nat.reduceLT, Nat.reduceLeDiff, reduceCtorEq]) | apply And.intro | (intro hg; (try simp only [push_cast] at hg)))
  all_goals first | exact True.intro | exact rfl | contradiction | omega | with_reducible assumption | (exact getE_dII (by omega)) | (have h8 := hvi (by omega); have := hcst (by omega); omega) | skip
  all_goals first | (refine hK9 _ ?_; clear hK9 K9) | (simp only [push_cast]; done)
  all_goals simp only [push_cast, ↓brB_true, ↓brB_false, ↓reduceIte, Nat.reduceMod, Nat.reduceMul, Nat.reduceDiv, Nat.reduceAdd, Nat.reduceSub, Nat.reduceEqDiff, Nat.reduceBEq, Nat.reduceLT, Nat.reduceLeDiff, reduceCtorEq]
  all_goals repeat' (first | (apply brB_mk <;> (intro hg; (try simp only [push_cast] at hg))) | (refine ⟨_, hW, ?_⟩; simp only [push_cast, ↓brB_true, ↓brB_false, ↓reduceIte, Nat.reduceMod, Nat.reduceMul, Nat.reduceDiv, Nat.reduceAdd, Nat.reduceSub, Nat.reduceEqDiff, Nat.reduceBEq, Nat.reduceLT, Nat.reduceLeDiff, reduceCtorEq]) | apply And.intro | (intro hg; (try simp only [push_cast] at hg)))
  all_goals first | exact True.intro | exact rfl | contradiction | omega | with_reducible assumption | (exact getE_dII (by omega)) | (have h8 := hvi (by omega); have := hcst (by omega); omega) | skip
  all_goals first | (refine hK _ ?_; clear hK K) | (simp only [push_cast]; done)
  refine awp_cond rfl (fun hc => ?_) (fun hc => ?_)
  skip
  · exfalso; first | (cases hc; done) | (simp only [push_cast] at hc; done) | (simp only [push_cast] at hc; omega) | omega
  refine awp_skip ?_
  (try simp only [AThen, ABlk, reduceIte, Nat.reduceEqDiff]); refine hK1 _ ?_
  refine awp_seq' fun K hK => ?_
  refine awp_regionD1 false tyOk tyPos tyMix ?_ rfl ?_
  · kernel_rfl
  intro E hE
  all_goals refine lexF_cut 3 (by decide) fun K9 hK9 => ?_
  all_goals simp only [push_cast, ↓brB_true, ↓brB_false, ↓reduceIte, Nat.reduceMod, Nat.reduceMul, Nat.reduceDiv, Nat.reduceAdd, Nat.reduceSub, Nat.reduceEqDiff, Nat.reduceBEq, Nat.reduceLT, Nat.reduceLeDiff, reduceCtorEq]
  all_goals repeat' (first | (apply brB_mk <;> (intro hg; (try simp only [push_cast] at hg))) | (refine ⟨_, hT, ?_⟩; simp only [push_cast, ↓brB_true, ↓brB_false, ↓reduceIte, Nat.reduceMod, Nat.reduceMul, Nat.reduceDiv, Nat.reduceAdd, Nat.reduceSub, Nat.reduceEqDiff, Nat.reduceBEq, Nat.reduceLT, Nat.reduceLeDiff, reduceCtorEq]) | (refine ⟨_, hC, ?_⟩; simp only [push_cast, ↓brB_true, ↓brB_false, ↓reduceIte, Nat.reduceMod, Nat.reduceMul, Nat.reduceDiv, Nat.reduceAdd, Nat.reduceSub, Nat.reduceEqDiff, Nat.reduceBEq, Nat.reduceLT, Nat.reduceLeDiff, reduceCtorEq]) | apply And.intro | (intro hg; (try simp only [push_cast] at hg)))
  all_goals first | exact True.intro | exact rfl | contradiction | omega | with_reducible assumption | (exact getE_dII (by omega)) | (have h8 := hvi (by omega); have := hcst (by omega); omega) | skip
  all_goals first | (refine hK9 _ _ ?_; clear hK9 K9) | (simp only [push_cast]; done)
  all_goals refine lexF_cut 3 (by decide) fun K9 hK9 => ?_
  all_goals simp only [push_cast, ↓brB_true, ↓brB_false, ↓reduceIte, Nat.reduceMod, Nat.reduceMul, Nat.reduceDiv, Nat.reduceAdd, Nat.reduceSub, Nat.reduceEqDiff, Nat.reduceBEq, Nat.reduceLT, Nat.reduceLeDiff, reduceCtorEq]
  all_goals repeat' (first | (apply brB_mk <;> (intro hg; (try simp only [push_cast] at hg))) | (refine ⟨_, hT, ?_⟩; simp only [push_cast, ↓brB_true, ↓brB_false, ↓reduceIte, Nat.reduceMod, Nat.reduceMul, Nat.reduceDiv, Nat.reduceAdd, Nat.reduceSub, Nat.reduceEqDiff, Nat.reduceBEq, Nat.reduceLT, Nat.reduceLeDiff, reduceCtorEq]) | (refine ⟨_, hC, ?_⟩; simp only [push_cast, ↓brB_true, ↓brB_false, ↓reduceIte, Nat.reduceMod, Nat.reduceMul, Nat.reduceDiv, Nat.reduceAdd, Nat.reduceSub, Nat.reduceEqDiff, Nat.reduceBEq, Nat.reduceLT, Nat.reduceLeDiff, reduceCtorEq]) | apply And.intro | (intro hg; (try simp only [push_cast] at hg)))
  all_goals first | exact True.intro | exact rfl | contradiction | omega | with_reducible assumption | (exact getE_dII (by omega)) | (have h8 := hvi (by omega); have := hcst (by omega); omega) | skip
  all_goals first | (refine hK9 _ _ ?_; clear hK9 K9) | (simp only [push_cast]; done)
  all_goals simp only [push_cast, ↓brB_true, ↓brB_false, ↓reduceIte, Nat.reduceMod, Nat.reduceMul, Nat.reduceDiv, Nat.reduceAdd, Nat.reduceSub, Nat.reduceEqDiff, Nat.reduceBEq, Nat.reduceLT, Nat.reduceLeDiff, reduceCtorEq]
  all_goals repeat' (first | (apply brB_mk <;> (intro hg; (try simp only [push_cast] at hg))) | (refine ⟨_, hT, ?_⟩; simp only [push_cast, ↓brB_true, ↓brB_false, ↓reduceIte, Nat.reduceMod, Nat.reduceMul, Nat.reduceDiv, Nat.reduceAdd, Nat.reduceSub, Nat.reduceEqDiff, Nat.reduceBEq, Nat.reduceLT, Nat.reduceLeDiff, reduceCtorEq]) | (refine ⟨_, hC, ?_⟩; simp only [push_cast, ↓brB_true, ↓brB_false, ↓reduceIte, Nat.reduceMod, Nat.reduceMul, Nat.reduceDiv, Nat.reduceAdd, Nat.reduceSub, Nat.reduceEqDiff, Nat.reduceBEq, Nat.reduceLT, Nat.reduceLeDiff, reduceCtorEq]) | apply And.intro | (intro hg; (try simp only [push_cast] at hg)))
  all_goals first | exact True.intro | exact rfl | contradiction | omega | with_reducible assumption | (refine hE _ _ ?_ ?_; kernel_rfl) | (exact getE_dII (by omega)) | (have h8 := hvi (by omega); have := hcst (by omega); omega) | skip
  all_goals clear hE E
  all_goals first | (refine hK _ ?_; clear hK K) | (simp only [push_cast]; done)
  refine awp_seq' fun K2 hK2 => ?_
  refine awp_settleB [.sl 2, .sl 22, .sl 22] 3 ?_
  simp only [push_cast, ↓brB_true, ↓brB_false, ↓reduceIte, Nat.reduceMod, Nat.reduceMul, Nat.reduceDiv, Nat.reduceAdd, Nat.reduceSub, Nat.reduceEqDiff, Nat.reduceBEq, Nat.reduceLT, Nat.reduceLeDiff, reduceCtorEq]
  refine awp_seq' fun K hK => ?_
  refine awp_region tyOk tyPos [] rfl ?_
  all_goals simp only [push_cast, ↓brB_true, ↓brB_false, ↓reduceIte, Nat.reduceMod, Nat.reduceMul, Nat.reduceDiv, Nat.reduceAdd, Nat.reduceSub, Nat.reduceEqDiff, Nat.reduceBEq, Nat.reduceLT, Nat.reduceLeDiff, reduceCtorEq]
  all_goals repeat' (first | (apply brB_mk <;> (intro hg; (try simp only [push_cast] at hg))) | apply And.intro | (intro hg; (try simp only [push_cast] at hg)))
  all_goals first | exact True.intro | exact rfl | contradiction | omega | with_reducible assumption | (exact getE_dII (by omega)) | (have h8 := hvi (by omega); have := hcst (by omega); omega) | skip
  all_goals first | (refine hK _ ?_; clear hK K) | (simp only [push_cast]; done)
  refine awp_block ?_
  refine awp_loopU [3,5,6,21,22,23,24,25,26,27,28,29,30,31,32,33,34,35,36,37,38,39] [50] (fun (v : Nat) => [(21, .int .i64 v), (3, .bp 3 0)]) (fun v => [(3, [.sl 48 [] 0 (w.a.owner.map (fun x => 1 - x)).length 2, .sl 49 [] 0 w.a.next.length 22, .sl 50 [] 0 w.cost.length 22])]) (fun v => [(50, ⟨.ex, 22, dII (mapR (fun x => -x) w.cost v), none⟩), (48, ⟨.ex, 2, dI (w.a.owner.map (fun x => 1 - x)), none⟩), (49, ⟨.ex, 22, dII w.a.next, none⟩)]) (fun v => v ≤ w.cost.length) (fun v => w.cost.length - v) 0 ?_ (by omega) ?_
  ·
    rw [mapR_0]
    refine cov_of rfl ?_ ?_ ?_ <;> simp only [covS, covL, push_cast, ↓brB_true, ↓brB_false, ↓reduceIte, Nat.reduceMod, Nat.reduceMul, Nat.reduceDiv, Nat.reduceAdd, Nat.reduceSub, Nat.reduceEqDiff, Nat.reduceBEq, Nat.reduceLT, Nat.reduceLeDiff, reduceCtorEq]
  · rintro v hv KL0 hL0
    have hml := mapR_len (g := (fun x => -x)) hv
    have hmg : v < w.cost.length → gl (mapR (fun x => -x) w.cost v) v = gl w.cost v := fun h => mapR_gl h
    have hrv := hcr v
    have hmgl : v < w.cost.length → (gl (mapR (fun x => -x) w.cost v) v).length = (gl w.cost v).length := fun h => by rw [hmg h]
    simp only [push_cast, ↓brB_true, ↓brB_false, ↓reduceIte, Nat.reduceMod, Nat.reduceMul, Nat.reduceDiv, Nat.reduceAdd, Nat.reduceSub, Nat.reduceEqDiff, Nat.reduceBEq, Nat.reduceLT, Nat.reduceLeDiff, reduceCtorEq]
    refine awp_seq' fun K hK => ?_
    refine awp_region tyOk tyPos [] rfl ?_
    all_goals simp only [push_cast, ↓brB_true, ↓brB_false, ↓reduceIte, Nat.reduceMod, Nat.reduceMul, Nat.reduceDiv, Nat.reduceAdd, Nat.reduceSub, Nat.reduceEqDiff, Nat.reduceBEq, Nat.reduceLT, Nat.reduceLeDiff, reduceCtorEq]
    all_goals repeat' (first | (apply brB_mk <;> (intro hg; (try simp only [push_cast] at hg))) | apply And.intro | (intro hg; (try simp only [push_cast] at hg)))
    all_goals first | exact True.intro | exact rfl | contradiction | omega | with_reducible assumption | (exact getE_dII (by omega)) | (have h8 := hvi (by omega); have := hcst (by omega); omega) | skip
    all_goals first | (refine hK _ ?_; clear hK K) | (simp only [push_cast]; done)
    refine awp_seq' fun K3 hK3 => ?_
    refine awp_cond rfl (fun hc => ?_) (fun hc => ?_) <;> (try simp only [push_cast] at hc)
    ·
      refine awp_skip ?_
      (try simp only [AThen, ABlk, reduceIte, Nat.reduceEqDiff]); refine hK3 _ ?_
      refine awp_seq' fun K4 hK4 => ?_
      refine awp_block ?_
      refine awp_seq' fun K hK => ?_
      refine awp_region tyOk tyPos [] rfl ?_
      all_goals simp only [push_cast, ↓brB_true, ↓brB_false, ↓reduceIte, Nat.reduceMod, Nat.reduceMul, Nat.reduceDiv, Nat.reduceAdd, Nat.reduceSub, Nat.reduceEqDiff, Nat.reduceBEq, Nat.reduceLT, Nat.reduceLeDiff, reduceCtorEq]
      all_goals repeat' (first | (apply brB_mk <;> (intro hg; (try simp only [push_cast] at hg))) | apply And.intro | (intro hg; (try simp only [push_cast] at hg)))
      all_goals first | exact True.intro | exact rfl | contradiction | omega | with_reducible assumption | (exact getE_dII (by omega)) | (have h8 := hvi (by omega); have := hcst (by omega); omega) | skip
      all_goals first | (refine hK _ ?_; clear hK K) | (simp only [push_cast]; done)
      refine awp_seq' fun K hK => ?_
      refine awp_region tyOk tyPos [] rfl ?_
      all_goals simp only [push_cast, ↓brB_true, ↓brB_false, ↓reduceIte, Nat.reduceMod, Nat.reduceMul, Nat.reduceDiv, Nat.reduceAdd, Nat.reduceSub, Nat.reduceEqDiff, Nat.reduceBEq, Nat.reduceLT, Nat.reduceLeDiff, reduceCtorEq]
      all_goals repeat' (first | (apply brB_mk <;> (intro hg; (try simp only [push_cast] at hg))) | apply And.intro | (intro hg; (try simp only [push_cast] at hg)))
      all_goals first | exact True.intro | exact rfl | contradiction | omega | with_reducible assumption | (exact getE_dII (by omega)) | (have h8 := hvi (by omega); have := hcst (by omega); omega) | skip
      all_goals first | (refine hK _ ?_; clear hK K) | (simp only [push_cast]; done)
      refine awp_block ?_
      refine awp_loopU [3,6,27,28,29,30,31,32,33,34,35,36,37,38] [50] (fun (k : Nat) => [(27, .int .i64 k), (3, .bp 3 0)]) (fun k => [(3, [.sl 48 [] 0 (w.a.owner.map (fun x => 1 - x)).length 2, .sl 49 [] 0 w.a.next.length 22, .sl 50 [] 0 w.cost.length 22])]) (fun k => [(50, ⟨.ex, 22, dII (mapV (fun x => -x) w.cost v k), none⟩), (48, ⟨.ex, 2, dI (w.a.owner.map (fun x => 1 - x)), none⟩), (49, ⟨.ex, 22, dII w.a.next, none⟩)]) (fun k => k ≤ (gl w.cost v).length) (fun k => (gl w.cost v).length - k) 0 ?_ (by omega) ?_
      ·
        rw [mapV_0 (by omega)]
        refine cov_of rfl ?_ ?_ ?_ <;> simp only [covS, covL, push_cast, ↓brB_true, ↓brB_false, ↓reduceIte, Nat.reduceMod, Nat.reduceMul, Nat.reduceDiv, Nat.reduceAdd, Nat.reduceSub, Nat.reduceEqDiff, Nat.reduceBEq, Nat.reduceLT, Nat.reduceLeDiff, reduceCtorEq]
      · rintro k hk KL1 hL1
        have hvl : (mapV (fun x => -x) w.cost v k).length = w.cost.length := mapV_len (by omega)
        have hvg : gl (mapV (fun x => -x) w.cost v k) v = mapI (fun x => -x) (gl w.cost v) k := mapV_gl (by omega)
        have hil := mapI_len (g := (fun x => -x)) hk
        have hvl2 : (gl (mapV (fun x => -x) w.cost v k) v).length = (gl w.cost v).length := by rw [hvg, hil]
        have hvi : k < (gl w.cost v).length → gi (gl (mapV (fun x => -x) w.cost v k) v) k = gi (gl w.cost v) k := fun h => by rw [hvg]; exact mapI_gi h
        have hig : k < (gl w.cost v).length → gi (mapI (fun x => -x) (gl w.cost v) k) k = gi (gl w.cost v) k := fun h => mapI_gi h
        have hcst : k < (gl w.cost v).length → -1000 ≤ gi (gl w.cost v) k ∧ gi (gl w.cost v) k ≤ 1000 := fun h => (hrow v (by omega)).2.2.2 k h
        simp only [push_cast, ↓brB_true, ↓brB_false, ↓reduceIte, Nat.reduceMod, Nat.reduceMul, Nat.reduceDiv, Nat.reduceAdd, Nat.reduceSub, Nat.reduceEqDiff, Nat.reduceBEq, Nat.reduceLT, Nat.reduceLeDiff, reduceCtorEq]
        refine awp_seq' fun K hK => ?_
        refine awp_region tyOk tyPos [] rfl ?_
        all_goals simp only [push_cast, ↓brB_true, ↓brB_false, ↓reduceIte, Nat.reduceMod, Nat.reduceMul, Nat.reduceDiv, Nat.reduceAdd, Nat.reduceSub, Nat.reduceEqDiff, Nat.reduceBEq, Nat.reduceLT, Nat.reduceLeDiff, reduceCtorEq]
        all_goals repeat' (first | (apply brB_mk <;> (intro hg; (try simp only [push_cast] at hg))) | apply And.intro | (intro hg; (try simp only [push_cast] at hg)))
        all_goals first | exact True.intro | exact rfl | contradiction | omega | with_reducible assumption | (exact getE_dII (by omega)) | (have h8 := hvi (by omega); have := hcst (by omega); omega) | skip
        all_goals first | (refine hK _ ?_; clear hK K) | (simp only [push_cast]; done)
        refine awp_seq' fun K5 hK5 => ?_
        refine awp_cond rfl (fun hc => ?_) (fun hc => ?_) <;> (try simp only [push_cast] at hc)
        ·
          refine awp_skip ?_
          (try simp only [AThen, ABlk, reduceIte, Nat.reduceEqDiff]); refine hK5 _ ?_
          refine awp_seq' fun K6 hK6 => ?_
          refine awp_block ?_
          refine awp_seq' fun K hK => ?_
          refine awp_region tyOk tyPos [] rfl ?_
          all_goals simp only [push_cast, ↓brB_true, ↓brB_false, ↓reduceIte, Nat.reduceMod, Nat.reduceMul, Nat.reduceDiv, Nat.reduceAdd, Nat.reduceSub, Nat.reduceEqDiff, Nat.reduceBEq, Nat.reduceLT, Nat.reduceLeDiff, reduceCtorEq]
          all_goals repeat' (first | (apply brB_mk <;> (intro hg; (try simp only [push_cast] at hg))) | apply And.intro | (intro hg; (try simp only [push_cast] at hg)))
          all_goals first | exact True.intro | exact rfl | contradiction | omega | with_reducible assumption | (exact getE_dII (by omega)) | (have h8 := hvi (by omega); have := hcst (by omega); omega) | skip
          all_goals first | (refine hK _ ?_; clear hK K) | (simp only [push_cast]; done)
          refine awp_region tyOk tyPos [] rfl ?_
          all_goals simp only [push_cast, ↓brB_true, ↓brB_false, ↓reduceIte, Nat.reduceMod, Nat.reduceMul, Nat.reduceDiv, Nat.reduceAdd, Nat.reduceSub, Nat.reduceEqDiff, Nat.reduceBEq, Nat.reduceLT, Nat.reduceLeDiff, reduceCtorEq]
          all_goals repeat' (first | (apply brB_mk <;> (intro hg; (try simp only [push_cast] at hg))) | apply And.intro | (intro hg; (try simp only [push_cast] at hg)))
          all_goals first | exact True.intro | exact rfl | contradiction | omega | with_reducible assumption | (exact getE_dII (by omega)) | (have h8 := hvi (by omega); have := hcst (by omega); omega) | skip
          (try simp only [AThen, ABlk, reduceIte, Nat.reduceEqDiff]); refine hK6 _ ?_
          refine awp_region tyOk tyPos [] rfl ?_
          all_goals simp only [push_cast, ↓brB_true, ↓brB_false, ↓reduceIte, Nat.reduceMod, Nat.reduceMul, Nat.reduceDiv, Nat.reduceAdd, Nat.reduceSub, Nat.reduceEqDiff, Nat.reduceBEq, Nat.reduceLT, Nat.reduceLeDiff, reduceCtorEq]
          all_goals repeat' (first | (apply brB_mk <;> (intro hg; (try simp only [push_cast] at hg))) | apply And.intro | (intro hg; (try simp only [push_cast] at hg)))
          all_goals first | exact True.intro | exact rfl | contradiction | omega | with_reducible assumption | (exact getE_dII (by omega)) | (have h8 := hvi (by omega); have := hcst (by omega); omega) | skip
          have e9 : gi (gl (mapV (fun x => -x) w.cost v k) v) k = gi (gl w.cost v) k := by rw [hvg, hig (by omega)]
          rw [setAt_dII _ _ _ _ (by omega)]
          rw [e9, mapV_set (g := fun x => -x) (by omega) (by omega)]
          refine hL1 _ ⟨k + 1, by omega, by omega, ?_⟩
          refine cov_of rfl ?_ ?_ ?_ <;> simp only [covS, covL, push_cast, ↓brB_true, ↓brB_false, ↓reduceIte, Nat.reduceMod, Nat.reduceMul, Nat.reduceDiv, Nat.reduceAdd, Nat.reduceSub, Nat.reduceEqDiff, Nat.reduceBEq, Nat.reduceLT, Nat.reduceLeDiff, reduceCtorEq]
        ·
          refine awp_exit ?_
          have hkk : k = (gl w.cost v).length := by omega
          subst hkk
          (try simp only [AThen, ABlk, reduceIte, Nat.reduceEqDiff]); refine hK4 _ ?_
          refine awp_region tyOk tyPos [] rfl ?_
          all_goals simp only [push_cast, ↓brB_true, ↓brB_false, ↓reduceIte, Nat.reduceMod, Nat.reduceMul, Nat.reduceDiv, Nat.reduceAdd, Nat.reduceSub, Nat.reduceEqDiff, Nat.reduceBEq, Nat.reduceLT, Nat.reduceLeDiff, reduceCtorEq]
          all_goals repeat' (first | (apply brB_mk <;> (intro hg; (try simp only [push_cast] at hg))) | apply And.intro | (intro hg; (try simp only [push_cast] at hg)))
          all_goals first | exact True.intro | exact rfl | contradiction | omega | with_reducible assumption | (exact getE_dII (by omega)) | (have h8 := hvi (by omega); have := hcst (by omega); omega) | skip
          refine hL0 _ ⟨v + 1, by omega, by omega, ?_⟩
          rw [mapV_all (by omega)]
          refine cov_of rfl ?_ ?_ ?_ <;> simp only [covS, covL, push_cast, ↓brB_true, ↓brB_false, ↓reduceIte, Nat.reduceMod, Nat.reduceMul, Nat.reduceDiv, Nat.reduceAdd, Nat.reduceSub, Nat.reduceEqDiff, Nat.reduceBEq, Nat.reduceLT, Nat.reduceLeDiff, reduceCtorEq]
    ·
      refine awp_exit ?_
      have hkv : v = w.cost.length := by omega
      subst hkv
      rw [mapR_all]
      (try simp only [AThen, ABlk, reduceIte, Nat.reduceEqDiff]); refine hK2 _ ?_
      refine awp_seq' fun K hK => ?_
      refine awp_region tyOk tyPos [] rfl ?_
      all_goals simp only [push_cast, ↓brB_true, ↓brB_false, ↓reduceIte, Nat.reduceMod, Nat.reduceMul, Nat.reduceDiv, Nat.reduceAdd, Nat.reduceSub, Nat.reduceEqDiff, Nat.reduceBEq, Nat.reduceLT, Nat.reduceLeDiff, reduceCtorEq]
      all_goals repeat' (first | (apply brB_mk <;> (intro hg; (try simp only [push_cast] at hg))) | apply And.intro | (intro hg; (try simp only [push_cast] at hg)))
      all_goals first | exact True.intro | exact rfl | contradiction | omega | with_reducible assumption | (exact getE_dII (by omega)) | (have h8 := hvi (by omega); have := hcst (by omega); omega) | skip
      all_goals first | (refine hK _ ?_; clear hK K) | (simp only [push_cast]; done)
      refine awp_ret ?_
      (try simp only [AThen, ABlk])
      refine ⟨Or.inl rfl, ?_⟩
      simp only [RetOk, resVars, resVar, push_cast, ↓brB_true, ↓brB_false, ↓reduceIte, Nat.reduceMod, Nat.reduceMul, Nat.reduceDiv, Nat.reduceAdd, Nat.reduceSub, Nat.reduceEqDiff, Nat.reduceBEq, Nat.reduceLT, Nat.reduceLeDiff, reduceCtorEq]
      all_goals first | rfl | (simp; done)
set_option maxRecDepth 20000 in
set_option maxHeartbeats 4000000 in
theorem DualI_fn0 (w : Wt) (ha : w.Ln 1048576) (hw : weightedB w = false) : Fn Try.prog tyT 30 [.agg (dWt w)] [.agg (dWt ⟨⟨[], []⟩, []⟩)] := by
  have hW := isWeighted_fn w ha
  rw [hw] at hW
  unfold dWt at hW ⊢
  dsimp only
  refine Fn_ofR (fn := Try.f30) (rs := [.cell 2 32]) tyOk tyPos Try.func30 (by kernel_rfl) rfl rfl (by rw [Try.ntmps30]; exact Nat.le_of_ble_eq_true rfl) rfl (by simp only [szA, List.mem_cons, List.not_mem_nil, or_false, forall_eq_or_imp, forall_eq, VT.cells, szL]; try decide) ?_
  rw [Try.ntmps30]
  simp only [push_cast, ↓brB_true, ↓brB_false, ↓reduceIte, Nat.reduceMod, Nat.reduceMul, Nat.reduceDiv, Nat.reduceAdd, Nat.reduceSub, Nat.reduceEqDiff, Nat.reduceBEq, Nat.reduceLT, Nat.reduceLeDiff, reduceCtorEq]
  refine awp_seq' fun K hK => ?_
  refine awp_region tyOk tyPos [] rfl ?_
  simp only [push_cast, ↓brB_true, ↓brB_false, ↓reduceIte, Nat.reduceMod, Nat.reduceMul, Nat.reduceDiv, Nat.reduceAdd, Nat.reduceSub, Nat.reduceEqDiff, Nat.reduceBEq, Nat.reduceLT, Nat.reduceLeDiff, reduceCtorEq]
  repeat' apply And.intro
  all_goals first | exact True.intro | exact rfl | omega | with_reducible assumption | (simp only [List.length_set, List.length_append, List.length_replicate, List.length_cons, List.length_nil]; omega) | skip
  all_goals first | (refine hK _ ?_; clear hK K) | (simp only [push_cast]; done)
  refine awp_seq' fun K1 hK1 => ?_
  refine awp_seq' fun K hK => ?_
  refine awp_region tyOk tyPos [] rfl ?_
  all_goals refine aops_cut 2 fun K9 hK9 => ?_
  all_goals simp only [push_cast, ↓brB_true, ↓brB_false, ↓reduceIte, Nat.reduceMod, Nat.reduceMul, Nat.reduceDiv, Nat.reduceAdd, Nat.reduceSub, Nat.reduceEqDiff, Nat.reduceBEq, Nat.reduceLT, Nat.reduceLeDiff, reduceCtorEq]
  all_goals repeat' (first | (apply brB_mk <;> (intro hg; (try simp only [push_cast] at hg))) | (refine ⟨_, hW, ?_⟩; simp only [push_cast, ↓brB_true, ↓brB_false, ↓reduceIte, Nat.reduceMod, Nat.reduceMul, Nat.reduceDiv, Nat.reduceAdd, Nat.reduceSub, Nat.reduceEqDiff, Nat.reduceBEq, Nat.reduceLT, Nat.reduceLeDiff, reduceCtorEq]) | apply And.intro | (intro hg; (try simp only [push_cast] at hg)))
  all_goals first | exact True.intro | exact rfl | contradiction | omega | with_reducible assumption | skip
  all_goals first | (refine hK9 _ ?_; clear hK9 K9) | (simp only [push_cast]; done)
  all_goals simp only [push_cast, ↓brB_true, ↓brB_false, ↓reduceIte, Nat.reduceMod, Nat.reduceMul, Nat.reduceDiv, Nat.reduceAdd, Nat.reduceSub, Nat.reduceEqDiff, Nat.reduceBEq, Nat.reduceLT, Nat.reduceLeDiff, reduceCtorEq]
  all_goals repeat' (first | (apply brB_mk <;> (intro hg; (try simp only [push_cast] at hg))) | (refine ⟨_, hW, ?_⟩; simp only [push_cast, ↓brB_true, ↓brB_false, ↓reduceIte, Nat.reduceMod, Nat.reduceMul, Nat.reduceDiv, Nat.reduceAdd, Nat.reduceSub, Nat.reduceEqDiff, Nat.reduceBEq, Nat.reduceLT, Nat.reduceLeDiff, reduceCtorEq]) | apply And.intro | (intro hg; (try simp only [push_cast] at hg)))
  all_goals first | exact True.intro | exact rfl | contradiction | omega | with_reducible assumption | skip
  all_goals first | (refine hK _ ?_; clear hK K) | (simp only [push_cast]; done)
  refine awp_cond rfl (fun hc => ?_) (fun hc => ?_)
  rotate_left
  · exfalso; first | (cases hc; done) | (simp only [push_cast] at hc; done) | (simp only [push_cast] at hc; omega) | omega
  refine awp_seq' fun K hK => ?_
  refine awp_region tyOk tyPos [] rfl ?_
  simp only [push_cast, ↓brB_true, ↓brB_false, ↓reduceIte, Nat.reduceMod, Nat.reduceMul, Nat.reduceDiv, Nat.reduceAdd, Nat.reduceSub, Nat.reduceEqDiff, Nat.reduceBEq, Nat.reduceLT, Nat.reduceLeDiff, reduceCtorEq]
  repeat' apply And.intro
  all_goals first | exact True.intro | exact rfl | omega | with_reducible assumption | (simp only [List.length_set, List.length_append, List.length_replicate, List.length_cons, List.length_nil]; omega) | skip
  all_goals first | (refine hK _ ?_; clear hK K) | (simp only [push_cast]; done)
  refine awp_ret ?_
  (try simp only [AThen, ABlk])
  refine ⟨Or.inl rfl, ?_⟩
  simp only [RetOk, resVars, resVar, push_cast, ↓brB_true, ↓brB_false, ↓reduceIte, Nat.reduceMod, Nat.reduceMul, Nat.reduceDiv, Nat.reduceAdd, Nat.reduceSub, Nat.reduceEqDiff, Nat.reduceBEq, Nat.reduceLT, Nat.reduceLeDiff, reduceCtorEq]
  exact ⟨by decide, rfl, rfl⟩
theorem DualI_fn (w : Wt) (ha : w.Ln 1048576) : Fn Try.prog tyT 30 [.agg (dWt w)] [.agg (dWt (dualW w))] := by
  by_cases h : weightedB w = true
  · rw [dualW_yes h]; exact DualI_fn1 w ha h
  · rw [dualW_no (by simpa using h)]; exact DualI_fn0 w ha (by simpa using h)
set_option maxRecDepth 20000 in
set_option maxHeartbeats 4000000 in
theorem DualS_fn1 (w : Wt) (ha : w.Ln 1048576) (hw : weightedB w = true) : Fn Try.prog tyT 29 [.agg (dWt w)] [.agg (dWt ⟨turnA w.a, w.cost.map (List.map fun x => -x)⟩)] := by
  have h0 := ha.a.owner
  have h1 := ha.a.next.1
  have h2 := ha.cost.1
  unfold LnI at h0
  have hcr : ∀ v, (gl w.cost v).length ≤ 1048576 := fun v => gl_le ha.cost v
  obtain ⟨hok, hn1, hn2, hn3, hn4, hrow⟩ := weighted_facts hw
  have hW := WeightedOkS_fn w ha
  have hT := TurnedS_fn w.a ha.a hok
  have hC := l20Copy_fn w ha
  unfold dAr at hT
  unfold dWt at hC
  rw [hw] at hW
  unfold turnA at hT ⊢
  unfold dWt at hW ⊢
  dsimp only at hT ⊢
  refine Fn_ofR (fn := Try.f29) (rs := [.cell 2 32]) tyOk tyPos Try.func29 (by kernel_rfl) rfl rfl (by rw [Try.ntmps29]; exact Nat.le_of_ble_eq_true rfl) rfl (by simp only [szA, List.mem_cons, List.not_mem_nil, or_false, forall_eq_or_imp, forall_eq, VT.cells, szL]; try decide) ?_
  rw [Try.ntmps29]
  simp only [push_cast, ↓brB_true, ↓brB_false, ↓reduceIte, Nat.reduceMod, Nat.reduceMul, Nat.reduceDiv, Nat.reduceAdd, Nat.reduceSub, Nat.reduceEqDiff, Nat.reduceBEq, Nat.reduceLT, Nat.reduceLeDiff, reduceCtorEq]
  refine awp_seq' fun K hK => ?_
  refine awp_region tyOk tyPos [] rfl ?_
  all_goals simp only [push_cast, ↓brB_true, ↓brB_false, ↓reduceIte, Nat.reduceMod, Nat.reduceMul, Nat.reduceDiv, Nat.reduceAdd, Nat.reduceSub, Nat.reduceEqDiff, Nat.reduceBEq, Nat.reduceLT, Nat.reduceLeDiff, reduceCtorEq]
  all_goals repeat' (first | (apply brB_mk <;> (intro hg; (try simp only [push_cast] at hg))) | apply And.intro | (intro hg; (try simp only [push_cast] at hg)))
  all_goals first | exact True.intro | exact rfl | contradiction | omega | with_reducible assumption | (exact getE_dII (by omega)) | (have h8 := hvi (by omega); have := hcst (by omega); omega) | skip
  all_goals first | (refine hK _ ?_; clear hK K) | (simp only [push_cast]; done)
  refine awp_seq' fun K1 hK1 => ?_
  refine awp_seq' fun K hK => ?_
  refine awp_region tyOk tyPos [] rfl ?_
  all_goals refine aops_cut 2 fun K9 hK9 => ?_
  all_goals simp only [push_cast, ↓brB_true, ↓brB_false, ↓reduceIte, Nat.reduceMod, Nat.reduceMul, Nat.reduceDiv, Nat.reduceAdd, Nat.reduceSub, Nat.reduceEqDiff, Nat.reduceBEq, Nat.reduceLT, Nat.reduceLeDiff, reduceCtorEq]
  all_goals repeat' (first | (apply brB_mk <;> (intro hg; (try simp only [push_cast] at hg))) | (refine ⟨_, hW, ?_⟩; simp only [push_cast, ↓brB_true, ↓brB_false, ↓reduceIte, Nat.reduceMod, Nat.reduceMul, Nat.reduceDiv, Nat.reduceAdd, Nat.reduceSub, Nat.reduceEqDiff, Nat.reduceBEq, Nat.reduceLT, Nat.reduceLeDiff, reduceCtorEq]) | apply And.intro | (intro hg; (try simp only [push_cast] at hg)))
  all_goals first | exact True.intro | exact rfl | contradiction | omega | with_reducible assumption | (exact getE_dII (by omega)) | (have h8 := hvi (by omega); have := hcst (by omega); omega) | skip
  all_goals first | (refine hK9 _ ?_; clear hK9 K9) | (simp only [push_cast]; done)
  all_goals simp only [push_cast, ↓brB_true, ↓brB_false, ↓reduceIte, Nat.reduceMod, Nat.reduceMul, Nat.reduceDiv, Nat.reduceAdd, Nat.reduceSub, Nat.reduceEqDiff, Nat.reduceBEq, Nat.reduceLT, Nat.reduceLeDiff, reduceCtorEq]
  all_goals repeat' (first | (apply brB_mk <;> (intro hg; (try simp only [push_cast] at hg))) | (refine ⟨_, hW, ?_⟩; simp only [push_cast, ↓brB_true, ↓brB_false, ↓reduceIte, Nat.reduceMod, Nat.reduceMul, Nat.reduceDiv, Nat.reduceAdd, Nat.reduceSub, Nat.reduceEqDiff, Nat.reduceBEq, Nat.reduceLT, Nat.reduceLeDiff, reduceCtorEq]) | apply And.intro | (intro hg; (try simp only [push_cast] at hg)))
  all_goals first | exact True.intro | exact rfl | contradiction | omega | with_reducible assumption | (exact getE_dII (by omega)) | (have h8 := hvi (by omega); have := hcst (by omega); omega) | skip
  all_goals first | (refine hK _ ?_; clear hK K) | (simp only [push_cast]; done)
  refine awp_cond rfl (fun hc => ?_) (fun hc => ?_)
  skip
  · exfalso; first | (cases hc; done) | (simp only [push_cast] at hc; done) | (simp only [push_cast] at hc; omega) | omega
  refine awp_skip ?_
  (try simp only [AThen, ABlk, reduceIte, Nat.reduceEqDiff]); refine hK1 _ ?_
  refine awp_seq' fun K hK => ?_
  refine awp_region tyOk tyPos [] rfl ?_
  all_goals refine aops_cut 2 fun K9 hK9 => ?_
  all_goals simp only [push_cast, ↓brB_true, ↓brB_false, ↓reduceIte, Nat.reduceMod, Nat.reduceMul, Nat.reduceDiv, Nat.reduceAdd, Nat.reduceSub, Nat.reduceEqDiff, Nat.reduceBEq, Nat.reduceLT, Nat.reduceLeDiff, reduceCtorEq]
  all_goals repeat' (first | (apply brB_mk <;> (intro hg; (try simp only [push_cast] at hg))) | (refine ⟨_, hC, ?_⟩; simp only [push_cast, ↓brB_true, ↓brB_false, ↓reduceIte, Nat.reduceMod, Nat.reduceMul, Nat.reduceDiv, Nat.reduceAdd, Nat.reduceSub, Nat.reduceEqDiff, Nat.reduceBEq, Nat.reduceLT, Nat.reduceLeDiff, reduceCtorEq]) | apply And.intro | (intro hg; (try simp only [push_cast] at hg)))
  all_goals first | exact True.intro | exact rfl | contradiction | omega | with_reducible assumption | (exact getE_dII (by omega)) | (have h8 := hvi (by omega); have := hcst (by omega); omega) | skip
  all_goals first | (refine hK9 _ ?_; clear hK9 K9) | (simp only [push_cast]; done)
  all_goals simp only [push_cast, ↓brB_true, ↓brB_false, ↓reduceIte, Nat.reduceMod, Nat.reduceMul, Nat.reduceDiv, Nat.reduceAdd, Nat.reduceSub, Nat.reduceEqDiff, Nat.reduceBEq, Nat.reduceLT, Nat.reduceLeDiff, reduceCtorEq]
  all_goals repeat' (first | (apply brB_mk <;> (intro hg; (try simp only [push_cast] at hg))) | (refine ⟨_, hC, ?_⟩; simp only [push_cast, ↓brB_true, ↓brB_false, ↓reduceIte, Nat.reduceMod, Nat.reduceMul, Nat.reduceDiv, Nat.reduceAdd, Nat.reduceSub, Nat.reduceEqDiff, Nat.reduceBEq, Nat.reduceLT, Nat.reduceLeDiff, reduceCtorEq]) | apply And.intro | (intro hg; (try simp only [push_cast] at hg)))
  all_goals first | exact True.intro | exact rfl | contradiction | omega | with_reducible assumption | (exact getE_dII (by omega)) | (have h8 := hvi (by omega); have := hcst (by omega); omega) | skip
  all_goals first | (refine hK _ ?_; clear hK K) | (simp only [push_cast]; done)
  refine awp_seq' fun K hK => ?_
  refine awp_region tyOk tyPos [] rfl ?_
  all_goals refine aops_cut 3 fun K9 hK9 => ?_
  all_goals simp only [push_cast, ↓brB_true, ↓brB_false, ↓reduceIte, Nat.reduceMod, Nat.reduceMul, Nat.reduceDiv, Nat.reduceAdd, Nat.reduceSub, Nat.reduceEqDiff, Nat.reduceBEq, Nat.reduceLT, Nat.reduceLeDiff, reduceCtorEq]
  all_goals repeat' (first | (apply brB_mk <;> (intro hg; (try simp only [push_cast] at hg))) | (refine ⟨_, hT, ?_⟩; simp only [push_cast, ↓brB_true, ↓brB_false, ↓reduceIte, Nat.reduceMod, Nat.reduceMul, Nat.reduceDiv, Nat.reduceAdd, Nat.reduceSub, Nat.reduceEqDiff, Nat.reduceBEq, Nat.reduceLT, Nat.reduceLeDiff, reduceCtorEq]) | apply And.intro | (intro hg; (try simp only [push_cast] at hg)))
  all_goals first | exact True.intro | exact rfl | contradiction | omega | with_reducible assumption | (exact getE_dII (by omega)) | (have h8 := hvi (by omega); have := hcst (by omega); omega) | skip
  all_goals first | (refine hK9 _ ?_; clear hK9 K9) | (simp only [push_cast]; done)
  all_goals simp only [push_cast, ↓brB_true, ↓brB_false, ↓reduceIte, Nat.reduceMod, Nat.reduceMul, Nat.reduceDiv, Nat.reduceAdd, Nat.reduceSub, Nat.reduceEqDiff, Nat.reduceBEq, Nat.reduceLT, Nat.reduceLeDiff, reduceCtorEq]
  all_goals repeat' (first | (apply brB_mk <;> (intro hg; (try simp only [push_cast] at hg))) | (refine ⟨_, hT, ?_⟩; simp only [push_cast, ↓brB_true, ↓brB_false, ↓reduceIte, Nat.reduceMod, Nat.reduceMul, Nat.reduceDiv, Nat.reduceAdd, Nat.reduceSub, Nat.reduceEqDiff, Nat.reduceBEq, Nat.reduceLT, Nat.reduceLeDiff, reduceCtorEq]) | apply And.intro | (intro hg; (try simp only [push_cast] at hg)))
  all_goals first | exact True.intro | exact rfl | contradiction | omega | with_reducible assumption | (exact getE_dII (by omega)) | (have h8 := hvi (by omega); have := hcst (by omega); omega) | skip
  all_goals first | (refine hK _ ?_; clear hK K) | (simp only [push_cast]; done)
  refine awp_seq' fun K2 hK2 => ?_
  refine awp_seq' fun K hK => ?_
  refine awp_region tyOk tyPos [] rfl ?_
  all_goals simp only [push_cast, ↓brB_true, ↓brB_false, ↓reduceIte, Nat.reduceMod, Nat.reduceMul, Nat.reduceDiv, Nat.reduceAdd, Nat.reduceSub, Nat.reduceEqDiff, Nat.reduceBEq, Nat.reduceLT, Nat.reduceLeDiff, reduceCtorEq]
  all_goals repeat' (first | (apply brB_mk <;> (intro hg; (try simp only [push_cast] at hg))) | apply And.intro | (intro hg; (try simp only [push_cast] at hg)))
  all_goals first | exact True.intro | exact rfl | contradiction | omega | with_reducible assumption | (exact getE_dII (by omega)) | (have h8 := hvi (by omega); have := hcst (by omega); omega) | skip
  all_goals first | (refine hK _ ?_; clear hK K) | (simp only [push_cast]; done)
  refine awp_block ?_
  refine awp_loopU [3,4,5,16,17,18,19,20,21,22,23,24,25,26,27,28,29,30,31,32,33,34,35,36,37,38,39,40,41,42,43,44,45,46,47,48] [50] (fun (v : Nat) => [(4, .int .i64 v), (3, .bp 3 0)]) (fun v => [(3, [.sl 48 [] 0 (w.a.owner.map (fun x => 1 - x)).length 2, .sl 49 [] 0 w.a.next.length 22, .sl 50 [] 0 w.cost.length 22])]) (fun v => [(50, ⟨.ex, 22, dII (mapR (fun x => -x) w.cost v), none⟩), (48, ⟨.ex, 2, dI (w.a.owner.map (fun x => 1 - x)), none⟩), (49, ⟨.ex, 22, dII w.a.next, none⟩)]) (fun v => v ≤ w.cost.length) (fun v => w.cost.length - v) 0 ?_ (by omega) ?_
  ·
    rw [mapR_0]
    refine cov_of rfl ?_ ?_ ?_ <;> simp only [covS, covL, push_cast, ↓brB_true, ↓brB_false, ↓reduceIte, Nat.reduceMod, Nat.reduceMul, Nat.reduceDiv, Nat.reduceAdd, Nat.reduceSub, Nat.reduceEqDiff, Nat.reduceBEq, Nat.reduceLT, Nat.reduceLeDiff, reduceCtorEq]
  · rintro v hv KL0 hL0
    have hml := mapR_len (g := (fun x => -x)) hv
    have hmg : v < w.cost.length → gl (mapR (fun x => -x) w.cost v) v = gl w.cost v := fun h => mapR_gl h
    have hrv := hcr v
    have hmgl : v < w.cost.length → (gl (mapR (fun x => -x) w.cost v) v).length = (gl w.cost v).length := fun h => by rw [hmg h]
    simp only [push_cast, ↓brB_true, ↓brB_false, ↓reduceIte, Nat.reduceMod, Nat.reduceMul, Nat.reduceDiv, Nat.reduceAdd, Nat.reduceSub, Nat.reduceEqDiff, Nat.reduceBEq, Nat.reduceLT, Nat.reduceLeDiff, reduceCtorEq]
    refine awp_seq' fun K3 hK3 => ?_
    refine awp_seq' fun K hK => ?_
    refine awp_region tyOk tyPos [] rfl ?_
    all_goals simp only [push_cast, ↓brB_true, ↓brB_false, ↓reduceIte, Nat.reduceMod, Nat.reduceMul, Nat.reduceDiv, Nat.reduceAdd, Nat.reduceSub, Nat.reduceEqDiff, Nat.reduceBEq, Nat.reduceLT, Nat.reduceLeDiff, reduceCtorEq]
    all_goals repeat' (first | (apply brB_mk <;> (intro hg; (try simp only [push_cast] at hg))) | apply And.intro | (intro hg; (try simp only [push_cast] at hg)))
    all_goals first | exact True.intro | exact rfl | contradiction | omega | with_reducible assumption | (exact getE_dII (by omega)) | (have h8 := hvi (by omega); have := hcst (by omega); omega) | skip
    all_goals first | (refine hK _ ?_; clear hK K) | (simp only [push_cast]; done)
    refine awp_cond rfl (fun hc => ?_) (fun hc => ?_) <;> (try simp only [push_cast] at hc)
    ·
      refine awp_skip ?_
      (try simp only [AThen, ABlk, reduceIte, Nat.reduceEqDiff]); refine hK3 _ ?_
      refine awp_seq' fun K4 hK4 => ?_
      refine awp_block ?_
      refine awp_seq' fun K hK => ?_
      refine awp_region tyOk tyPos [] rfl ?_
      all_goals simp only [push_cast, ↓brB_true, ↓brB_false, ↓reduceIte, Nat.reduceMod, Nat.reduceMul, Nat.reduceDiv, Nat.reduceAdd, Nat.reduceSub, Nat.reduceEqDiff, Nat.reduceBEq, Nat.reduceLT, Nat.reduceLeDiff, reduceCtorEq]
      all_goals repeat' (first | (apply brB_mk <;> (intro hg; (try simp only [push_cast] at hg))) | apply And.intro | (intro hg; (try simp only [push_cast] at hg)))
      all_goals first | exact True.intro | exact rfl | contradiction | omega | with_reducible assumption | (exact getE_dII (by omega)) | (have h8 := hvi (by omega); have := hcst (by omega); omega) | skip
      all_goals first | (refine hK _ ?_; clear hK K) | (simp only [push_cast]; done)
      refine awp_block ?_
      refine awp_loopU [3,5,23,24,25,26,27,28,29,30,31,32,33,34,35,36,37,38,39,40,41,42,43,44,45,46,47,48] [50] (fun (k : Nat) => [(5, .int .i64 k), (3, .bp 3 0)]) (fun k => [(3, [.sl 48 [] 0 (w.a.owner.map (fun x => 1 - x)).length 2, .sl 49 [] 0 w.a.next.length 22, .sl 50 [] 0 w.cost.length 22])]) (fun k => [(50, ⟨.ex, 22, dII (mapV (fun x => -x) w.cost v k), none⟩), (48, ⟨.ex, 2, dI (w.a.owner.map (fun x => 1 - x)), none⟩), (49, ⟨.ex, 22, dII w.a.next, none⟩)]) (fun k => k ≤ (gl w.cost v).length) (fun k => (gl w.cost v).length - k) 0 ?_ (by omega) ?_
      ·
        rw [mapV_0 (by omega)]
        refine cov_of rfl ?_ ?_ ?_ <;> simp only [covS, covL, push_cast, ↓brB_true, ↓brB_false, ↓reduceIte, Nat.reduceMod, Nat.reduceMul, Nat.reduceDiv, Nat.reduceAdd, Nat.reduceSub, Nat.reduceEqDiff, Nat.reduceBEq, Nat.reduceLT, Nat.reduceLeDiff, reduceCtorEq]
      · rintro k hk KL1 hL1
        have hvl : (mapV (fun x => -x) w.cost v k).length = w.cost.length := mapV_len (by omega)
        have hvg : gl (mapV (fun x => -x) w.cost v k) v = mapI (fun x => -x) (gl w.cost v) k := mapV_gl (by omega)
        have hil := mapI_len (g := (fun x => -x)) hk
        have hvl2 : (gl (mapV (fun x => -x) w.cost v k) v).length = (gl w.cost v).length := by rw [hvg, hil]
        have hvi : k < (gl w.cost v).length → gi (gl (mapV (fun x => -x) w.cost v k) v) k = gi (gl w.cost v) k := fun h => by rw [hvg]; exact mapI_gi h
        have hig : k < (gl w.cost v).length → gi (mapI (fun x => -x) (gl w.cost v) k) k = gi (gl w.cost v) k := fun h => mapI_gi h
        have hcst : k < (gl w.cost v).length → -1000 ≤ gi (gl w.cost v) k ∧ gi (gl w.cost v) k ≤ 1000 := fun h => (hrow v (by omega)).2.2.2 k h
        simp only [push_cast, ↓brB_true, ↓brB_false, ↓reduceIte, Nat.reduceMod, Nat.reduceMul, Nat.reduceDiv, Nat.reduceAdd, Nat.reduceSub, Nat.reduceEqDiff, Nat.reduceBEq, Nat.reduceLT, Nat.reduceLeDiff, reduceCtorEq]
        refine awp_seq' fun K5 hK5 => ?_
        refine awp_seq' fun K hK => ?_
        refine awp_region tyOk tyPos [] rfl ?_
        all_goals simp only [push_cast, ↓brB_true, ↓brB_false, ↓reduceIte, Nat.reduceMod, Nat.reduceMul, Nat.reduceDiv, Nat.reduceAdd, Nat.reduceSub, Nat.reduceEqDiff, Nat.reduceBEq, Nat.reduceLT, Nat.reduceLeDiff, reduceCtorEq]
        all_goals repeat' (first | (apply brB_mk <;> (intro hg; (try simp only [push_cast] at hg))) | apply And.intro | (intro hg; (try simp only [push_cast] at hg)))
        all_goals first | exact True.intro | exact rfl | contradiction | omega | with_reducible assumption | (exact getE_dII (by omega)) | (have h8 := hvi (by omega); have := hcst (by omega); omega) | skip
        all_goals first | (refine hK _ ?_; clear hK K) | (simp only [push_cast]; done)
        refine awp_cond rfl (fun hc => ?_) (fun hc => ?_) <;> (try simp only [push_cast] at hc)
        ·
          refine awp_skip ?_
          (try simp only [AThen, ABlk, reduceIte, Nat.reduceEqDiff]); refine hK5 _ ?_
          refine awp_seq' fun K6 hK6 => ?_
          refine awp_block ?_
          refine awp_regionD1 false tyOk tyPos tyMix ?_ rfl ?_
          · kernel_rfl
          intro E hE
          all_goals simp only [push_cast, ↓brB_true, ↓brB_false, ↓reduceIte, Nat.reduceMod, Nat.reduceMul, Nat.reduceDiv, Nat.reduceAdd, Nat.reduceSub, Nat.reduceEqDiff, Nat.reduceBEq, Nat.reduceLT, Nat.reduceLeDiff, reduceCtorEq]
          all_goals repeat' (first | (apply brB_mk <;> (intro hg; (try simp only [push_cast] at hg))) | apply And.intro | (intro hg; (try simp only [push_cast] at hg)))
          all_goals first | exact True.intro | exact rfl | contradiction | omega | with_reducible assumption | (refine hE _ _ ?_ ?_; kernel_rfl) | (exact getE_dII (by omega)) | (have h8 := hvi (by omega); have := hcst (by omega); omega) | skip
          all_goals clear hE E
          (try simp only [AThen, ABlk, reduceIte, Nat.reduceEqDiff]); refine hK6 _ ?_
          refine awp_region tyOk tyPos [] rfl ?_
          all_goals simp only [push_cast, ↓brB_true, ↓brB_false, ↓reduceIte, Nat.reduceMod, Nat.reduceMul, Nat.reduceDiv, Nat.reduceAdd, Nat.reduceSub, Nat.reduceEqDiff, Nat.reduceBEq, Nat.reduceLT, Nat.reduceLeDiff, reduceCtorEq]
          all_goals repeat' (first | (apply brB_mk <;> (intro hg; (try simp only [push_cast] at hg))) | apply And.intro | (intro hg; (try simp only [push_cast] at hg)))
          all_goals first | exact True.intro | exact rfl | contradiction | omega | with_reducible assumption | (exact getE_dII (by omega)) | (have h8 := hvi (by omega); have := hcst (by omega); omega) | skip
          have e9 : gi (gl (mapV (fun x => -x) w.cost v k) v) k = gi (gl w.cost v) k := by rw [hvg, hig (by omega)]
          rw [setAt_dII _ _ _ _ (by omega)]
          rw [e9, mapV_set (g := fun x => -x) (by omega) (by omega)]
          refine hL1 _ ⟨k + 1, by omega, by omega, ?_⟩
          refine cov_of rfl ?_ ?_ ?_ <;> simp only [covS, covL, push_cast, ↓brB_true, ↓brB_false, ↓reduceIte, Nat.reduceMod, Nat.reduceMul, Nat.reduceDiv, Nat.reduceAdd, Nat.reduceSub, Nat.reduceEqDiff, Nat.reduceBEq, Nat.reduceLT, Nat.reduceLeDiff, reduceCtorEq]
        ·
          refine awp_exit ?_
          have hkk : k = (gl w.cost v).length := by omega
          subst hkk
          (try simp only [AThen, ABlk, reduceIte, Nat.reduceEqDiff]); refine hK4 _ ?_
          refine awp_region tyOk tyPos [] rfl ?_
          all_goals simp only [push_cast, ↓brB_true, ↓brB_false, ↓reduceIte, Nat.reduceMod, Nat.reduceMul, Nat.reduceDiv, Nat.reduceAdd, Nat.reduceSub, Nat.reduceEqDiff, Nat.reduceBEq, Nat.reduceLT, Nat.reduceLeDiff, reduceCtorEq]
          all_goals repeat' (first | (apply brB_mk <;> (intro hg; (try simp only [push_cast] at hg))) | apply And.intro | (intro hg; (try simp only [push_cast] at hg)))
          all_goals first | exact True.intro | exact rfl | contradiction | omega | with_reducible assumption | (exact getE_dII (by omega)) | (have h8 := hvi (by omega); have := hcst (by omega); omega) | skip
          refine hL0 _ ⟨v + 1, by omega, by omega, ?_⟩
          rw [mapV_all (by omega)]
          refine cov_of rfl ?_ ?_ ?_ <;> simp only [covS, covL, push_cast, ↓brB_true, ↓brB_false, ↓reduceIte, Nat.reduceMod, Nat.reduceMul, Nat.reduceDiv, Nat.reduceAdd, Nat.reduceSub, Nat.reduceEqDiff, Nat.reduceBEq, Nat.reduceLT, Nat.reduceLeDiff, reduceCtorEq]
    ·
      refine awp_exit ?_
      have hkv : v = w.cost.length := by omega
      subst hkv
      rw [mapR_all]
      (try simp only [AThen, ABlk, reduceIte, Nat.reduceEqDiff]); refine hK2 _ ?_
      refine awp_seq' fun K hK => ?_
      refine awp_region tyOk tyPos [] rfl ?_
      all_goals simp only [push_cast, ↓brB_true, ↓brB_false, ↓reduceIte, Nat.reduceMod, Nat.reduceMul, Nat.reduceDiv, Nat.reduceAdd, Nat.reduceSub, Nat.reduceEqDiff, Nat.reduceBEq, Nat.reduceLT, Nat.reduceLeDiff, reduceCtorEq]
      all_goals repeat' (first | (apply brB_mk <;> (intro hg; (try simp only [push_cast] at hg))) | apply And.intro | (intro hg; (try simp only [push_cast] at hg)))
      all_goals first | exact True.intro | exact rfl | contradiction | omega | with_reducible assumption | (exact getE_dII (by omega)) | (have h8 := hvi (by omega); have := hcst (by omega); omega) | skip
      all_goals first | (refine hK _ ?_; clear hK K) | (simp only [push_cast]; done)
      refine awp_ret ?_
      (try simp only [AThen, ABlk])
      refine ⟨Or.inl rfl, ?_⟩
      simp only [RetOk, resVars, resVar, push_cast, ↓brB_true, ↓brB_false, ↓reduceIte, Nat.reduceMod, Nat.reduceMul, Nat.reduceDiv, Nat.reduceAdd, Nat.reduceSub, Nat.reduceEqDiff, Nat.reduceBEq, Nat.reduceLT, Nat.reduceLeDiff, reduceCtorEq]
      all_goals first | rfl | (simp; done)
set_option maxRecDepth 20000 in
set_option maxHeartbeats 4000000 in
theorem DualS_fn0 (w : Wt) (ha : w.Ln 1048576) (hw : weightedB w = false) : Fn Try.prog tyT 29 [.agg (dWt w)] [.agg (dWt ⟨⟨[], []⟩, []⟩)] := by
  have hW := WeightedOkS_fn w ha
  rw [hw] at hW
  unfold dWt at hW ⊢
  dsimp only
  refine Fn_ofR (fn := Try.f29) (rs := [.cell 2 32]) tyOk tyPos Try.func29 (by kernel_rfl) rfl rfl (by rw [Try.ntmps29]; exact Nat.le_of_ble_eq_true rfl) rfl (by simp only [szA, List.mem_cons, List.not_mem_nil, or_false, forall_eq_or_imp, forall_eq, VT.cells, szL]; try decide) ?_
  rw [Try.ntmps29]
  simp only [push_cast, ↓brB_true, ↓brB_false, ↓reduceIte, Nat.reduceMod, Nat.reduceMul, Nat.reduceDiv, Nat.reduceAdd, Nat.reduceSub, Nat.reduceEqDiff, Nat.reduceBEq, Nat.reduceLT, Nat.reduceLeDiff, reduceCtorEq]
  refine awp_seq' fun K hK => ?_
  refine awp_region tyOk tyPos [] rfl ?_
  simp only [push_cast, ↓brB_true, ↓brB_false, ↓reduceIte, Nat.reduceMod, Nat.reduceMul, Nat.reduceDiv, Nat.reduceAdd, Nat.reduceSub, Nat.reduceEqDiff, Nat.reduceBEq, Nat.reduceLT, Nat.reduceLeDiff, reduceCtorEq]
  repeat' apply And.intro
  all_goals first | exact True.intro | exact rfl | omega | with_reducible assumption | (simp only [List.length_set, List.length_append, List.length_replicate, List.length_cons, List.length_nil]; omega) | skip
  all_goals first | (refine hK _ ?_; clear hK K) | (simp only [push_cast]; done)
  refine awp_seq' fun K1 hK1 => ?_
  refine awp_seq' fun K hK => ?_
  refine awp_region tyOk tyPos [] rfl ?_
  all_goals refine aops_cut 2 fun K9 hK9 => ?_
  all_goals simp only [push_cast, ↓brB_true, ↓brB_false, ↓reduceIte, Nat.reduceMod, Nat.reduceMul, Nat.reduceDiv, Nat.reduceAdd, Nat.reduceSub, Nat.reduceEqDiff, Nat.reduceBEq, Nat.reduceLT, Nat.reduceLeDiff, reduceCtorEq]
  all_goals repeat' (first | (apply brB_mk <;> (intro hg; (try simp only [push_cast] at hg))) | (refine ⟨_, hW, ?_⟩; simp only [push_cast, ↓brB_true, ↓brB_false, ↓reduceIte, Nat.reduceMod, Nat.reduceMul, Nat.reduceDiv, Nat.reduceAdd, Nat.reduceSub, Nat.reduceEqDiff, Nat.reduceBEq, Nat.reduceLT, Nat.reduceLeDiff, reduceCtorEq]) | apply And.intro | (intro hg; (try simp only [push_cast] at hg)))
  all_goals first | exact True.intro | exact rfl | contradiction | omega | with_reducible assumption | skip
  all_goals first | (refine hK9 _ ?_; clear hK9 K9) | (simp only [push_cast]; done)
  all_goals simp only [push_cast, ↓brB_true, ↓brB_false, ↓reduceIte, Nat.reduceMod, Nat.reduceMul, Nat.reduceDiv, Nat.reduceAdd, Nat.reduceSub, Nat.reduceEqDiff, Nat.reduceBEq, Nat.reduceLT, Nat.reduceLeDiff, reduceCtorEq]
  all_goals repeat' (first | (apply brB_mk <;> (intro hg; (try simp only [push_cast] at hg))) | (refine ⟨_, hW, ?_⟩; simp only [push_cast, ↓brB_true, ↓brB_false, ↓reduceIte, Nat.reduceMod, Nat.reduceMul, Nat.reduceDiv, Nat.reduceAdd, Nat.reduceSub, Nat.reduceEqDiff, Nat.reduceBEq, Nat.reduceLT, Nat.reduceLeDiff, reduceCtorEq]) | apply And.intro | (intro hg; (try simp only [push_cast] at hg)))
  all_goals first | exact True.intro | exact rfl | contradiction | omega | with_reducible assumption | skip
  all_goals first | (refine hK _ ?_; clear hK K) | (simp only [push_cast]; done)
  refine awp_cond rfl (fun hc => ?_) (fun hc => ?_)
  rotate_left
  · exfalso; first | (cases hc; done) | (simp only [push_cast] at hc; done) | (simp only [push_cast] at hc; omega) | omega
  refine awp_seq' fun K hK => ?_
  refine awp_region tyOk tyPos [] rfl ?_
  simp only [push_cast, ↓brB_true, ↓brB_false, ↓reduceIte, Nat.reduceMod, Nat.reduceMul, Nat.reduceDiv, Nat.reduceAdd, Nat.reduceSub, Nat.reduceEqDiff, Nat.reduceBEq, Nat.reduceLT, Nat.reduceLeDiff, reduceCtorEq]
  repeat' apply And.intro
  all_goals first | exact True.intro | exact rfl | omega | with_reducible assumption | (simp only [List.length_set, List.length_append, List.length_replicate, List.length_cons, List.length_nil]; omega) | skip
  all_goals first | (refine hK _ ?_; clear hK K) | (simp only [push_cast]; done)
  refine awp_ret ?_
  (try simp only [AThen, ABlk])
  refine ⟨Or.inl rfl, ?_⟩
  simp only [RetOk, resVars, resVar, push_cast, ↓brB_true, ↓brB_false, ↓reduceIte, Nat.reduceMod, Nat.reduceMul, Nat.reduceDiv, Nat.reduceAdd, Nat.reduceSub, Nat.reduceEqDiff, Nat.reduceBEq, Nat.reduceLT, Nat.reduceLeDiff, reduceCtorEq]
  exact ⟨by decide, rfl, rfl⟩
theorem DualS_fn (w : Wt) (ha : w.Ln 1048576) : Fn Try.prog tyT 29 [.agg (dWt w)] [.agg (dWt (dualW w))] := by
  by_cases h : weightedB w = true
  · rw [dualW_yes h]; exact DualS_fn1 w ha h
  · rw [dualW_no (by simpa using h)]; exact DualS_fn0 w ha (by simpa using h)
end Go.Proofs.Ytfmkomllnojkjaa

/- a parity game as a weighted arena: both sides -/
namespace Go.Proofs.Ytfmkomllnojkjaa
open Go.RowKit
set_option linter.unusedVariables false
set_option linter.unusedSimpArgs false

def rowV (g : Pa) (j : Nat) : List Int := List.replicate (gl g.a.next j).length (scoreV g.a.owner.length (gi g.prio j).toNat)
def bridgeR (g : Pa) (v : Nat) : List (List Int) := (List.range v).map (rowV g)
theorem bridgeR_len (g : Pa) (v : Nat) : (bridgeR g v).length = v := by simp [bridgeR]
theorem bridgeR_s (g : Pa) (v : Nat) : bridgeR g (v + 1) = bridgeR g v ++ [rowV g v] := by simp [bridgeR, List.range_succ]
theorem bridgeR_gl {g : Pa} {n v : Nat} (h : v < n) : gl (bridgeR g n) v = rowV g v := by
  unfold gl bridgeR
  rw [List.getD_eq_getElem?_getD, List.getElem?_map, List.getElem?_range h]
  rfl
def bridgeB (g : Pa) : Bool := parityB g && decide (g.prio.length ≤ 24) && allB g.a.owner.length (fun j => scoreB g.a.owner.length (gi g.prio j).toNat)
def bridgeW (g : Pa) : Wt := if bridgeB g then ⟨g.a, bridgeR g g.a.owner.length⟩ else ⟨⟨[], []⟩, []⟩
theorem bridge_no1 {g : Pa} (h : parityB g = false) : bridgeB g = false := by unfold bridgeB; rw [h]; rfl
theorem bridge_no2 {g : Pa} (h : ¬ g.prio.length ≤ 24) : bridgeB g = false := by unfold bridgeB; rw [decide_eq_false h, Bool.and_false]; rfl
theorem bridge_no3 {g : Pa} {v : Nat} (hv : v < g.a.owner.length) (h : scoreB g.a.owner.length (gi g.prio v).toNat = false) : bridgeB g = false := by unfold bridgeB; rw [allB_false hv h, Bool.and_false]
theorem bridge_yes {g : Pa} (h1 : parityB g = true) (h2 : g.prio.length ≤ 24) (h3 : ∀ j, j < g.a.owner.length → scoreB g.a.owner.length (gi g.prio j).toNat = true) : bridgeB g = true := by unfold bridgeB; rw [h1, decide_eq_true h2, allB_true h3]; rfl
theorem bridgeW_no {g : Pa} (h : bridgeB g = false) : bridgeW g = ⟨⟨[], []⟩, []⟩ := by unfold bridgeW; rw [h]; rfl
theorem bridgeW_yes {g : Pa} (h : bridgeB g = true) : bridgeW g = ⟨g.a, bridgeR g g.a.owner.length⟩ := by unfold bridgeW; rw [h]; rfl
theorem bridge_facts {g : Pa} (h : bridgeB g = true) : parityB g = true ∧ g.prio.length ≤ 24 ∧ ∀ j, j < g.a.owner.length → scoreB g.a.owner.length (gi g.prio j).toNat = true := by
  unfold bridgeB at h
  rw [Bool.and_eq_true, Bool.and_eq_true, decide_eq_true_eq] at h
  exact ⟨h.1.1, h.1.2, fun j hj => allB_at (p := fun j => scoreB g.a.owner.length (gi g.prio j).toNat) h.2 hj⟩
theorem scoreV_le {n : Int} (hn : 1 ≤ n) (p : Nat) : -1000 ≤ scoreV n p ∧ scoreV n p ≤ 1000 := by
  have h1 := sg_abs hn p
  have h2 := pw_pos hn p
  unfold scoreV
  split <;> omega
theorem gi_rep {n k : Nat} {x : Int} (h : k < n) : gi (List.replicate n x) k = x := by
  unfold gi
  rw [List.getD_eq_getElem?_getD, List.getElem?_replicate, if_pos h]
  rfl
theorem bridge_weighted {g : Pa} (h : bridgeB g = true) : weightedB (bridgeW g) = true := by
  obtain ⟨h1, h2, h3⟩ := bridge_facts h
  obtain ⟨k1, k2, k3, k4, k5, k6⟩ := parity_facts h1
  rw [bridgeW_yes h]
  have hl := bridgeR_len g g.a.owner.length
  refine weightedB_iff.2 ⟨k1, by show g.a.owner.length ≤ 24; omega, by show (bridgeR g g.a.owner.length).length = _; omega, fun v hv => ?_⟩
  have hv : v < g.a.owner.length := by have hv : v < (bridgeR g g.a.owner.length).length := hv; omega
  refine costAt_iff.2 ⟨?_, fun j hj => ?_⟩
  · show (gl (bridgeR g g.a.owner.length) v).length = (gl g.a.next v).length
    rw [bridgeR_gl hv]; exact List.length_replicate ..
  · have hj : j < (gl (bridgeR g g.a.owner.length) v).length := hj
    rw [bridgeR_gl hv] at hj
    have hj : j < (gl g.a.next v).length := by rw [rowV, List.length_replicate] at hj; exact hj
    refine inCost_iff.2 ?_
    show -1000 ≤ gi (gl (bridgeR g g.a.owner.length) v) j ∧ gi (gl (bridgeR g g.a.owner.length) v) j ≤ 1000
    rw [bridgeR_gl hv, rowV, gi_rep hj]
    exact scoreV_le (by omega) _
theorem LnII_mem {B : Nat} {xs : List (List Int)} (h : ∀ v, v < xs.length → (gl xs v).length ≤ B) (hl : xs.length ≤ B) : LnII B xs := by
  refine ⟨hl, fun r hr => ?_⟩
  obtain ⟨k, hk, rfl⟩ := List.getElem_of_mem hr
  have := h k hk
  unfold gl at this
  rw [List.getD_eq_getElem?_getD, List.getElem?_eq_getElem hk] at this
  exact this
theorem bridgeW_len {g : Pa} (h : g.Ln 1048576) : (bridgeW g).Ln 1048576 := by
  have hno := h.a.owner
  unfold LnI at hno
  unfold bridgeW
  split
  · refine ⟨h.a, LnII_mem (fun v hv => ?_) ?_⟩
    · have hv : v < g.a.owner.length := by have hv : v < (bridgeR g g.a.owner.length).length := hv; rwa [bridgeR_len] at hv
      show (gl (bridgeR g g.a.owner.length) v).length ≤ _
      rw [bridgeR_gl hv, rowV, List.length_replicate]
      exact gl_le h.a.next v
    · show (bridgeR g g.a.owner.length).length ≤ _
      rw [bridgeR_len]; exact hno
  · exact ⟨⟨by unfold LnI; simp, ⟨by simp, by simp⟩⟩, ⟨by simp, by simp⟩⟩
end Go.Proofs.Ytfmkomllnojkjaa
