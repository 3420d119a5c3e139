/- parity games and scores: both sides -/
import Derived.Test.YtdbecmmeifdafaaGWzme
import Derived.Test.YtdbecmmeifdafaaB10zme
import Derived.Test.YtdbecmmeifdafaaB4zme
import Derived.Test.YtdbecmmeifdafaaB7zme
import Derived.Test.YtdbecmmeifdafaaB6zme
import Derived.Test.YtdbecmmeifdafaaB9zme
import Derived.Test.YtdbecmmeifdafaaB8zme
namespace Go.Proofs.Ytdbecmmeifdafaa
open Nat renaming reduceMod → zA, reduceMul → zB, reduceDiv → zC, reduceAdd → zD, reduceSub → zE, reduceEqDiff → zF, reduceBEq → zG, reduceLT → zH, reduceLeDiff → zI
open Go.RowKit
set_option linter.unusedVariables false
set_option linter.unusedSimpArgs false

end Go.Proofs.Ytdbecmmeifdafaa

namespace Go.Proofs.Ytdbecmmeifdafaa
open Nat renaming reduceMod → zA, reduceMul → zB, reduceDiv → zC, reduceAdd → zD, reduceSub → zE, reduceEqDiff → zF, reduceBEq → zG, reduceLT → zH, reduceLeDiff → zI
open Go.RowKit
set_option linter.unusedVariables false
set_option linter.unusedSimpArgs false

def mapI (g : Int → Int) (r : List Int) (k : Nat) : List Int := (r.take k).map g ++ r.drop k
def mapR (g : Int → Int) (xs : List (List Int)) (v : Nat) : List (List Int) := (xs.take v).map (List.map g) ++ xs.drop v
theorem drop_gi' {c : List Int} {k : Nat} (h : k < c.length) : c.drop k = gi c k :: c.drop (k + 1) := by
  rw [List.drop_eq_getElem_cons h]
  congr 1
  unfold gi
  rw [List.getD_eq_getElem?_getD, List.getElem?_eq_getElem h]
  rfl
theorem drop_gl' {c : List (List Int)} {k : Nat} (h : k < c.length) : c.drop k = gl c k :: c.drop (k + 1) := by
  rw [List.drop_eq_getElem_cons h]
  congr 1
  unfold gl
  rw [List.getD_eq_getElem?_getD, List.getElem?_eq_getElem h]
  rfl
theorem mapI_0 (g : Int → Int) (r : List Int) : mapI g r 0 = r := by simp [mapI]
theorem mapI_all (g : Int → Int) (r : List Int) : mapI g r r.length = r.map g := by simp [mapI]
theorem mapI_len {g : Int → Int} {r : List Int} {k : Nat} (h : k ≤ r.length) : (mapI g r k).length = r.length := by simp [mapI]; omega
theorem mapI_gi {g : Int → Int} {r : List Int} {k : Nat} (h : k < r.length) : gi (mapI g r k) k = gi r k := by
  have hl : ((r.take k).map g).length = k := by simp; omega
  unfold mapI
  rw [drop_gi' h]
  exact gi_app_r (xs := (r.take k).map g) (ys := gi r k :: r.drop (k + 1)) (k := 0) hl
theorem mapI_set {g : Int → Int} {r : List Int} {k : Nat} (h : k < r.length) : (mapI g r k).set k (g (gi r k)) = mapI g r (k + 1) := by
  have hl : ((r.take k).map g).length = k := by simp; omega
  unfold mapI
  rw [List.set_append_right _ _ (by omega), hl, Nat.sub_self, drop_gi' h, List.set_cons_zero, List.take_add_one, gi_lt h]
  simp
theorem mapR_0 (g : Int → Int) (xs : List (List Int)) : mapR g xs 0 = xs := by simp [mapR]
theorem mapR_all (g : Int → Int) (xs : List (List Int)) : mapR g xs xs.length = xs.map (List.map g) := by simp [mapR]
theorem mapR_len {g : Int → Int} {xs : List (List Int)} {v : Nat} (h : v ≤ xs.length) : (mapR g xs v).length = xs.length := by simp [mapR]; omega
theorem gl_app_r {xs ys : List (List Int)} {n k : Nat} (h : xs.length = n) : gl (xs ++ ys) (n + k) = gl ys k := by
  subst h
  unfold gl
  rw [List.getD_eq_getElem?_getD, List.getElem?_append_right (by omega), Nat.add_sub_cancel_left, List.getD_eq_getElem?_getD]
theorem mapR_gl {g : Int → Int} {xs : List (List Int)} {v : Nat} (h : v < xs.length) : gl (mapR g xs v) v = gl xs v := by
  have hl : ((xs.take v).map (List.map g)).length = v := by simp; omega
  unfold mapR
  rw [drop_gl' h]
  exact gl_app_r (xs := (xs.take v).map (List.map g)) (ys := gl xs v :: xs.drop (v + 1)) (k := 0) hl
theorem mapR_set {g : Int → Int} {xs : List (List Int)} {v : Nat} (h : v < xs.length) : (mapR g xs v).set v ((gl xs v).map g) = mapR g xs (v + 1) := by
  have hl : ((xs.take v).map (List.map g)).length = v := by simp; omega
  unfold mapR
  rw [List.set_append_right _ _ (by omega), hl, Nat.sub_self, drop_gl' h, List.set_cons_zero, List.take_add_one, gl_lt h]
  simp
theorem gl_set {xs : List (List Int)} {v : Nat} {r : List Int} (h : v < xs.length) : gl (xs.set v r) v = r := by
  unfold gl
  rw [List.getD_eq_getElem?_getD, List.getElem?_set]
  simp [h]
theorem mapR_in0 {g : Int → Int} {xs : List (List Int)} {v : Nat} (h : v < xs.length) : (mapR g xs v).set v (mapI g (gl xs v) 0) = mapR g xs v := by
  have hl : ((xs.take v).map (List.map g)).length = v := by simp; omega
  rw [mapI_0]
  unfold mapR
  rw [List.set_append_right _ _ (by omega), hl, Nat.sub_self, drop_gl' h, List.set_cons_zero]
def mapV (g : Int → Int) (xs : List (List Int)) (v k : Nat) : List (List Int) := (mapR g xs v).set v (mapI g (gl xs v) k)
theorem mapV_0 {g : Int → Int} {xs : List (List Int)} {v : Nat} (h : v < xs.length) : mapV g xs v 0 = mapR g xs v := mapR_in0 h
theorem mapV_all {g : Int → Int} {xs : List (List Int)} {v : Nat} (h : v < xs.length) : mapV g xs v (gl xs v).length = mapR g xs (v + 1) := by
  unfold mapV
  rw [mapI_all, mapR_set h]
theorem mapV_len {g : Int → Int} {xs : List (List Int)} {v k : Nat} (h : v < xs.length) : (mapV g xs v k).length = xs.length := by unfold mapV; rw [List.length_set, mapR_len (by omega)]
theorem mapV_gl {g : Int → Int} {xs : List (List Int)} {v k : Nat} (h : v < xs.length) : gl (mapV g xs v k) v = mapI g (gl xs v) k := by unfold mapV; rw [gl_set (by rw [mapR_len (by omega)]; exact h)]
theorem mapV_set {g : Int → Int} {xs : List (List Int)} {v k : Nat} (h : v < xs.length) (hk : k < (gl xs v).length) : (mapV g xs v k).set v ((gl (mapV g xs v k) v).set k (g (gi (gl xs v) k))) = mapV g xs v (k + 1) := by
  rw [mapV_gl h, mapI_set hk]
  unfold mapV
  rw [List.set_set]
end Go.Proofs.Ytdbecmmeifdafaa

namespace Go.Proofs.Ytdbecmmeifdafaa
open Nat renaming reduceMod → zA, reduceMul → zB, reduceDiv → zC, reduceAdd → zD, reduceSub → zE, reduceEqDiff → zF, reduceBEq → zG, reduceLT → zH, reduceLeDiff → zI
open Go.RowKit
set_option linter.unusedVariables false
set_option linter.unusedSimpArgs false

set_option maxRecDepth 20000 in
set_option maxHeartbeats 4000000 in
theorem copyLists_fn (xs : List (List Int)) (hx : LnII 1048576 xs) : Fn Try.prog tyT 58 [.c (DII xs)] [.c (DII xs)] := by
  have h1 := hx.1
  have hr : ∀ v, (gl xs v).length ≤ 1048576 := fun v => gl_le hx v
  refine Fn_of (fn := Try.f58) (ts := [2]) Try.func58 (by kernel_rfl) rfl rfl (by rw [Try.ntmps58]; exact Nat.le_of_ble_eq_true rfl) rfl (by simp only [szA, List.mem_cons, List.not_mem_nil, or_false, forall_eq_or_imp, forall_eq, VT.cells, szL]; try decide) ?_
  rw [Try.ntmps58]
  simp only [push_cast, ↓brB_true, ↓brB_false, ↓reduceIte, zA, zB, zC, zD, zE, zF, zG, zH, zI, reduceCtorEq]
  refine awp_seq' fun K hK => ?_
  refine awp_region tyOk tyPos [] rfl ?_
  all_goals simp only [push_cast, ↓brB_true, ↓brB_false, ↓reduceIte, zA, zB, zC, zD, zE, zF, zG, zH, zI, reduceCtorEq]
  all_goals repeat' (first | (apply brB_mk <;> (intro hg; (try simp only [push_cast] at hg))) | apply And.intro | (intro hg; (try simp only [push_cast] at hg)))
  all_goals first | exact gA | (exact getE_dII (by omega)) | skip
  all_goals first | (refine hK _ ?_; clear hK K) | (simp only [push_cast]; done)
  refine awp_seq' fun K hK => ?_
  refine awp_regionN false tyOk tyPos ?_ rfl ?_
  · kernel_rfl
  simp only [push_cast, ↓brB_true, ↓brB_false, ↓reduceIte, zA, zB, zC, zD, zE, zF, zG, zH, zI, reduceCtorEq]
  all_goals repeat' (first | (apply brB_mk <;> (intro hg; (try simp only [push_cast] at hg))) | apply And.intro | (intro hg; (try simp only [push_cast] at hg)))
  all_goals first | exact gA | (exact getE_dII (by omega)) | skip
  all_goals first | (refine hK _ ?_; clear hK K) | (simp only [push_cast]; done)
  refine awp_settle 27 3 (Nat.le_of_ble_eq_true rfl) ?_
  simp only [push_cast, ↓brB_true, ↓brB_false, ↓reduceIte, zA, zB, zC, zD, zE, zF, zG, zH, zI, reduceCtorEq]
  refine awp_seq' fun K1 hK1 => ?_
  refine awp_seq' fun K hK => ?_
  refine awp_region tyOk tyPos [] rfl ?_
  all_goals simp only [push_cast, ↓brB_true, ↓brB_false, ↓reduceIte, zA, zB, zC, zD, zE, zF, zG, zH, zI, reduceCtorEq]
  all_goals repeat' (first | (apply brB_mk <;> (intro hg; (try simp only [push_cast] at hg))) | apply And.intro | (intro hg; (try simp only [push_cast] at hg)))
  all_goals first | exact gA | (exact getE_dII (by omega)) | skip
  all_goals first | (refine hK _ ?_; clear hK K) | (simp only [push_cast]; done)
  refine awp_block ?_
  rw [show ([] : List D) = dII (xs.take 0) from by simp [dII]]
  refine awp_loopU [3,5,9,10,11,12,13,14,15,16,17,18,19] [48] (fun (k : Nat) => [(9, .int .i64 k), (3, .sl 48 [] 0 k 27)]) (fun k => []) (fun k => [(48, ⟨.ex, 27, dII (xs.take k), none⟩)]) (fun k => k ≤ xs.length) (fun k => xs.length - k) 0 ?_ (by omega) ?_
  ·
    refine cov_of rfl ?_ ?_ ?_ <;> simp only [covS, covL, push_cast, ↓brB_true, ↓brB_false, ↓reduceIte, zA, zB, zC, zD, zE, zF, zG, zH, zI, reduceCtorEq]
  · rintro k hk KL0 hL0
    have htk : (xs.take k).length = k := by rw [List.length_take]; omega
    have hrk := hr k
    simp only [push_cast, ↓brB_true, ↓brB_false, ↓reduceIte, zA, zB, zC, zD, zE, zF, zG, zH, zI, reduceCtorEq]
    refine awp_seq' fun K hK => ?_
    refine awp_region tyOk tyPos [] rfl ?_
    all_goals simp only [push_cast, ↓brB_true, ↓brB_false, ↓reduceIte, zA, zB, zC, zD, zE, zF, zG, zH, zI, reduceCtorEq]
    all_goals repeat' (first | (apply brB_mk <;> (intro hg; (try simp only [push_cast] at hg))) | apply And.intro | (intro hg; (try simp only [push_cast] at hg)))
    all_goals first | exact gA | (exact getE_dII (by omega)) | skip
    all_goals first | (refine hK _ ?_; clear hK K) | (simp only [push_cast]; done)
    refine awp_seq' fun K2 hK2 => ?_
    refine awp_cond rfl (fun hc => ?_) (fun hc => ?_) <;> (try simp only [push_cast] at hc)
    ·
      refine awp_skip ?_
      (try simp only [AThen, ABlk, reduceIte, zF]); refine hK2 _ ?_
      refine awp_seq' fun K3 hK3 => ?_
      refine awp_block ?_
      refine awp_seq' fun K hK => ?_
      refine awp_region tyOk tyPos [] rfl ?_
      all_goals simp only [push_cast, ↓brB_true, ↓brB_false, ↓reduceIte, zA, zB, zC, zD, zE, zF, zG, zH, zI, reduceCtorEq]
      all_goals repeat' (first | (apply brB_mk <;> (intro hg; (try simp only [push_cast] at hg))) | apply And.intro | (intro hg; (try simp only [push_cast] at hg)))
      all_goals first | exact gA | (exact getE_dII (by omega)) | skip
      all_goals first | (refine hK _ ?_; clear hK K) | (simp only [push_cast]; done)
      refine awp_regionN false tyOk tyPos ?_ rfl ?_
      · kernel_rfl
      simp only [push_cast, ↓brB_true, ↓brB_false, ↓reduceIte, zA, zB, zC, zD, zE, zF, zG, zH, zI, reduceCtorEq]
      all_goals repeat' (first | (apply brB_mk <;> (intro hg; (try simp only [push_cast] at hg))) | apply And.intro | (intro hg; (try simp only [push_cast] at hg)))
      all_goals first | exact gA | (exact getE_dII (by omega)) | skip
      (try simp only [AThen, ABlk, reduceIte, zF]); refine hK3 _ ?_
      refine awp_settle 27 3 (Nat.le_of_ble_eq_true rfl) ?_
      simp only [push_cast, ↓brB_true, ↓brB_false, ↓reduceIte, zA, zB, zC, zD, zE, zF, zG, zH, zI, reduceCtorEq]
      refine awp_region tyOk tyPos [] rfl ?_
      all_goals simp only [push_cast, ↓brB_true, ↓brB_false, ↓reduceIte, zA, zB, zC, zD, zE, zF, zG, zH, zI, reduceCtorEq]
      all_goals repeat' (first | (apply brB_mk <;> (intro hg; (try simp only [push_cast] at hg))) | apply And.intro | (intro hg; (try simp only [push_cast] at hg)))
      all_goals first | exact gA | (exact getE_dII (by omega)) | skip
      refine hL0 _ ⟨k + 1, by omega, by omega, ?_⟩
      (try rw [List.take_take, Nat.min_self])
      rw [take_snocL (by omega)]
      refine cov_of rfl ?_ ?_ ?_ <;> simp only [covS, covL, push_cast, ↓brB_true, ↓brB_false, ↓reduceIte, zA, zB, zC, zD, zE, zF, zG, zH, zI, reduceCtorEq]
    ·
      refine awp_exit ?_
      have hkk : k = xs.length := by omega
      subst hkk
      rw [List.take_length]
      (try simp only [AThen, ABlk, reduceIte, zF]); refine hK1 _ ?_
      refine awp_seq' fun K hK => ?_
      refine awp_region tyOk tyPos [] rfl ?_
      all_goals simp only [push_cast, ↓brB_true, ↓brB_false, ↓reduceIte, zA, zB, zC, zD, zE, zF, zG, zH, zI, reduceCtorEq]
      all_goals repeat' (first | (apply brB_mk <;> (intro hg; (try simp only [push_cast] at hg))) | apply And.intro | (intro hg; (try simp only [push_cast] at hg)))
      all_goals first | exact gA | (exact getE_dII (by omega)) | skip
      all_goals first | (refine hK _ ?_; clear hK K) | (simp only [push_cast]; done)
      refine awp_ret ?_
      (try simp only [AThen, ABlk])
      refine ⟨Or.inl rfl, ?_⟩
      simp only [RetOk, push_cast, ↓brB_true, ↓brB_false, ↓reduceIte, zA, zB, zC, zD, zE, zF, zG, zH, zI, reduceCtorEq]
set_option maxRecDepth 20000 in
set_option maxHeartbeats 4000000 in
theorem l1CopyArena_fn (a : Ar) (ha : a.Ln 1048576) : Fn Try.prog tyT 122 [.agg (dAr a)] [.agg (dAr a)] := by
  have h0 := ha.owner
  have hC0 := l1Copy_fn a.owner h0
  obtain ⟨ow, xs⟩ := a
  have hx : LnII 1048576 xs := ha.next
  have h1 := hx.1
  have hr : ∀ v, (gl xs v).length ≤ 1048576 := fun v => gl_le hx v
  have hC := fun k => l1Copy_fn (gl xs k) (hr k)
  unfold LnI at h0
  dsimp only at h0 hC0
  unfold dAr
  refine Fn_ofR (fn := Try.f122) (rs := [.cell 2 30]) tyOk tyPos Try.func122 (by kernel_rfl) rfl rfl (by rw [Try.ntmps122]; exact Nat.le_of_ble_eq_true rfl) rfl (by simp only [szA, List.mem_cons, List.not_mem_nil, or_false, forall_eq_or_imp, forall_eq, VT.cells, szL]; try decide) ?_
  rw [Try.ntmps122]
  simp only [push_cast, ↓brB_true, ↓brB_false, ↓reduceIte, zA, zB, zC, zD, zE, zF, zG, zH, zI, reduceCtorEq]
  refine awp_seq' fun K hK => ?_
  refine awp_region tyOk tyPos [] rfl ?_
  all_goals simp only [push_cast, ↓brB_true, ↓brB_false, ↓reduceIte, zA, zB, zC, zD, zE, zF, zG, zH, zI, reduceCtorEq]
  all_goals repeat' (first | (apply brB_mk <;> (intro hg; (try simp only [push_cast] at hg))) | apply And.intro | (intro hg; (try simp only [push_cast] at hg)))
  all_goals first | exact gA | (exact getE_dII (by omega)) | skip
  all_goals first | (refine hK _ ?_; clear hK K) | (simp only [push_cast]; done)
  refine awp_seq' fun K hK => ?_
  refine awp_region tyOk tyPos [] rfl ?_
  all_goals refine aops_cut 3 fun K9 hK9 => ?_
  all_goals simp only [push_cast, ↓brB_true, ↓brB_false, ↓reduceIte, zA, zB, zC, zD, zE, zF, zG, zH, zI, reduceCtorEq]
  all_goals repeat' (first | (apply brB_mk <;> (intro hg; (try simp only [push_cast] at hg))) | (refine ⟨_, hC0, ?_⟩; simp only [push_cast, ↓brB_true, ↓brB_false, ↓reduceIte, zA, zB, zC, zD, zE, zF, zG, zH, zI, reduceCtorEq]) | apply And.intro | (intro hg; (try simp only [push_cast] at hg)))
  all_goals first | exact gA | (exact getE_dII (by omega)) | skip
  all_goals first | (refine hK9 _ ?_; clear hK9 K9) | (simp only [push_cast]; done)
  all_goals simp only [push_cast, ↓brB_true, ↓brB_false, ↓reduceIte, zA, zB, zC, zD, zE, zF, zG, zH, zI, reduceCtorEq]
  all_goals repeat' (first | (apply brB_mk <;> (intro hg; (try simp only [push_cast] at hg))) | (refine ⟨_, hC0, ?_⟩; simp only [push_cast, ↓brB_true, ↓brB_false, ↓reduceIte, zA, zB, zC, zD, zE, zF, zG, zH, zI, reduceCtorEq]) | apply And.intro | (intro hg; (try simp only [push_cast] at hg)))
  all_goals first | exact gA | (exact getE_dII (by omega)) | skip
  all_goals first | (refine hK _ ?_; clear hK K) | (simp only [push_cast]; done)
  refine awp_seq' fun K1 hK1 => ?_
  refine awp_seq' fun K hK => ?_
  refine awp_region tyOk tyPos [] rfl ?_
  all_goals simp only [push_cast, ↓brB_true, ↓brB_false, ↓reduceIte, zA, zB, zC, zD, zE, zF, zG, zH, zI, reduceCtorEq]
  all_goals repeat' (first | (apply brB_mk <;> (intro hg; (try simp only [push_cast] at hg))) | apply And.intro | (intro hg; (try simp only [push_cast] at hg)))
  all_goals first | exact gA | (exact getE_dII (by omega)) | skip
  all_goals first | (refine hK _ ?_; clear hK K) | (simp only [push_cast]; done)
  refine awp_block ?_
  refine awp_loopU [3,4,9,10,11,12,13,14,15,16,17,18,19,20,21,22,23,24,25,26] [49] (fun (k : Nat) => [(4, .int .i64 k), (3, .bp 3 0)]) (fun k => [(3, [.sl 48 [] 0 ow.length 2, .sl 49 [] 0 k 27])]) (fun k => [(48, ⟨.ex, 2, dI ow, none⟩), (49, ⟨.ex, 27, dII (xs.take k), none⟩)]) (fun k => k ≤ xs.length) (fun k => xs.length - k) 0 ?_ (by omega) ?_
  ·
    rw [show dII (xs.take 0) = [] from by simp [dII]]
    refine cov_of rfl ?_ ?_ ?_ <;> simp only [covS, covL, push_cast, ↓brB_true, ↓brB_false, ↓reduceIte, zA, zB, zC, zD, zE, zF, zG, zH, zI, reduceCtorEq]
  · rintro k hk KL0 hL0
    have htk : (xs.take k).length = k := by rw [List.length_take]; omega
    have hrk := hr k
    simp only [push_cast, ↓brB_true, ↓brB_false, ↓reduceIte, zA, zB, zC, zD, zE, zF, zG, zH, zI, reduceCtorEq]
    refine awp_seq' fun K2 hK2 => ?_
    refine awp_seq' fun K hK => ?_
    refine awp_region tyOk tyPos [] rfl ?_
    all_goals simp only [push_cast, ↓brB_true, ↓brB_false, ↓reduceIte, zA, zB, zC, zD, zE, zF, zG, zH, zI, reduceCtorEq]
    all_goals repeat' (first | (apply brB_mk <;> (intro hg; (try simp only [push_cast] at hg))) | apply And.intro | (intro hg; (try simp only [push_cast] at hg)))
    all_goals first | exact gA | (exact getE_dII (by omega)) | skip
    all_goals first | (refine hK _ ?_; clear hK K) | (simp only [push_cast]; done)
    refine awp_cond rfl (fun hc => ?_) (fun hc => ?_) <;> (try simp only [push_cast] at hc)
    ·
      refine awp_skip ?_
      (try simp only [AThen, ABlk, reduceIte, zF]); refine hK2 _ ?_
      refine awp_seq' fun K3 hK3 => ?_
      refine awp_block ?_
      refine awp_regionD1 false tyOk tyPos tyMix ?_ rfl ?_
      · kernel_rfl
      intro E hE
      all_goals refine lexF_cut 8 (by decide) fun K9 hK9 => ?_
      all_goals simp only [push_cast, ↓brB_true, ↓brB_false, ↓reduceIte, zA, zB, zC, zD, zE, zF, zG, zH, zI, reduceCtorEq]
      all_goals repeat' (first | (apply brB_mk <;> (intro hg; (try simp only [push_cast] at hg))) | (refine ⟨_, hC k, ?_⟩; simp only [push_cast, ↓brB_true, ↓brB_false, ↓reduceIte, zA, zB, zC, zD, zE, zF, zG, zH, zI, reduceCtorEq]) | apply And.intro | (intro hg; (try simp only [push_cast] at hg)))
      all_goals first | exact gA | (exact getE_dII (by omega)) | skip
      all_goals first | (refine hK9 _ _ ?_; clear hK9 K9) | (simp only [push_cast]; done)
      all_goals simp only [push_cast, ↓brB_true, ↓brB_false, ↓reduceIte, zA, zB, zC, zD, zE, zF, zG, zH, zI, reduceCtorEq]
      all_goals repeat' (first | (apply brB_mk <;> (intro hg; (try simp only [push_cast] at hg))) | (refine ⟨_, hC k, ?_⟩; simp only [push_cast, ↓brB_true, ↓brB_false, ↓reduceIte, zA, zB, zC, zD, zE, zF, zG, zH, zI, reduceCtorEq]) | apply And.intro | (intro hg; (try simp only [push_cast] at hg)))
      all_goals first | exact gA | (refine hE _ _ ?_ ?_; kernel_rfl) | (exact getE_dII (by omega)) | skip
      all_goals clear hE E
      (try simp only [AThen, ABlk, reduceIte, zF]); refine hK3 _ ?_
      refine awp_settleB [.sl 2, .sl 27] 3 ?_
      simp only [push_cast, ↓brB_true, ↓brB_false, ↓reduceIte, zA, zB, zC, zD, zE, zF, zG, zH, zI, reduceCtorEq]
      refine awp_region tyOk tyPos [] rfl ?_
      all_goals simp only [push_cast, ↓brB_true, ↓brB_false, ↓reduceIte, zA, zB, zC, zD, zE, zF, zG, zH, zI, reduceCtorEq]
      all_goals repeat' (first | (apply brB_mk <;> (intro hg; (try simp only [push_cast] at hg))) | apply And.intro | (intro hg; (try simp only [push_cast] at hg)))
      all_goals first | exact gA | (exact getE_dII (by omega)) | skip
      refine hL0 _ ⟨k + 1, by omega, by omega, ?_⟩
      (try rw [List.take_take, Nat.min_self])
      rw [take_snocL (by omega)]
      refine cov_of rfl ?_ ?_ ?_ <;> simp only [covS, covL, push_cast, ↓brB_true, ↓brB_false, ↓reduceIte, zA, zB, zC, zD, zE, zF, zG, zH, zI, reduceCtorEq]
    ·
      refine awp_exit ?_
      have hkk : k = xs.length := by omega
      subst hkk
      rw [List.take_length]
      (try simp only [AThen, ABlk, reduceIte, zF]); refine hK1 _ ?_
      refine awp_seq' fun K hK => ?_
      refine awp_region tyOk tyPos [] rfl ?_
      all_goals simp only [push_cast, ↓brB_true, ↓brB_false, ↓reduceIte, zA, zB, zC, zD, zE, zF, zG, zH, zI, reduceCtorEq]
      all_goals repeat' (first | (apply brB_mk <;> (intro hg; (try simp only [push_cast] at hg))) | apply And.intro | (intro hg; (try simp only [push_cast] at hg)))
      all_goals first | exact gA | (exact getE_dII (by omega)) | skip
      all_goals first | (refine hK _ ?_; clear hK K) | (simp only [push_cast]; done)
      refine awp_ret ?_
      (try simp only [AThen, ABlk])
      refine ⟨Or.inl rfl, ?_⟩
      simp only [RetOk, resVars, resVar, push_cast, ↓brB_true, ↓brB_false, ↓reduceIte, zA, zB, zC, zD, zE, zF, zG, zH, zI, reduceCtorEq]
set_option maxRecDepth 20000 in
set_option maxHeartbeats 4000000 in
theorem l20Copy_fn (w : Wt) (ha : w.Ln 1048576) : Fn Try.prog tyT 78 [.agg (dWt w)] [.agg (dWt w)] := by
  have h0 := ha.a.owner
  have h2 := ha.a.next.1
  have hC0 := l1CopyArena_fn w.a ha.a
  obtain ⟨a, xs⟩ := w
  have hx : LnII 1048576 xs := ha.cost
  have h1 := hx.1
  have hr : ∀ v, (gl xs v).length ≤ 1048576 := fun v => gl_le hx v
  have hC := fun k => l1Copy_fn (gl xs k) (hr k)
  unfold LnI at h0
  dsimp only at h0 h2 hC0
  unfold dAr at hC0
  unfold dWt
  refine Fn_ofR (fn := Try.f78) (rs := [.cell 2 32]) tyOk tyPos Try.func78 (by kernel_rfl) rfl rfl (by rw [Try.ntmps78]; exact Nat.le_of_ble_eq_true rfl) rfl (by simp only [szA, List.mem_cons, List.not_mem_nil, or_false, forall_eq_or_imp, forall_eq, VT.cells, szL]; try decide) ?_
  rw [Try.ntmps78]
  simp only [push_cast, ↓brB_true, ↓brB_false, ↓reduceIte, zA, zB, zC, zD, zE, zF, zG, zH, zI, reduceCtorEq]
  refine awp_seq' fun K hK => ?_
  refine awp_region tyOk tyPos [] rfl ?_
  all_goals simp only [push_cast, ↓brB_true, ↓brB_false, ↓reduceIte, zA, zB, zC, zD, zE, zF, zG, zH, zI, reduceCtorEq]
  all_goals repeat' (first | (apply brB_mk <;> (intro hg; (try simp only [push_cast] at hg))) | apply And.intro | (intro hg; (try simp only [push_cast] at hg)))
  all_goals first | exact gA | (exact getE_dII (by omega)) | skip
  all_goals first | (refine hK _ ?_; clear hK K) | (simp only [push_cast]; done)
  refine awp_seq' fun K hK => ?_
  refine awp_region tyOk tyPos [] rfl ?_
  all_goals refine aops_cut 3 fun K9 hK9 => ?_
  all_goals simp only [push_cast, ↓brB_true, ↓brB_false, ↓reduceIte, zA, zB, zC, zD, zE, zF, zG, zH, zI, reduceCtorEq]
  all_goals repeat' (first | (apply brB_mk <;> (intro hg; (try simp only [push_cast] at hg))) | (refine ⟨_, hC0, ?_⟩; simp only [push_cast, ↓brB_true, ↓brB_false, ↓reduceIte, zA, zB, zC, zD, zE, zF, zG, zH, zI, reduceCtorEq]) | apply And.intro | (intro hg; (try simp only [push_cast] at hg)))
  all_goals first | exact gA | (exact getE_dII (by omega)) | skip
  all_goals first | (refine hK9 _ ?_; clear hK9 K9) | (simp only [push_cast]; done)
  all_goals simp only [push_cast, ↓brB_true, ↓brB_false, ↓reduceIte, zA, zB, zC, zD, zE, zF, zG, zH, zI, reduceCtorEq]
  all_goals repeat' (first | (apply brB_mk <;> (intro hg; (try simp only [push_cast] at hg))) | (refine ⟨_, hC0, ?_⟩; simp only [push_cast, ↓brB_true, ↓brB_false, ↓reduceIte, zA, zB, zC, zD, zE, zF, zG, zH, zI, reduceCtorEq]) | apply And.intro | (intro hg; (try simp only [push_cast] at hg)))
  all_goals first | exact gA | (exact getE_dII (by omega)) | skip
  all_goals first | (refine hK _ ?_; clear hK K) | (simp only [push_cast]; done)
  refine awp_seq' fun K1 hK1 => ?_
  refine awp_seq' fun K hK => ?_
  refine awp_region tyOk tyPos [] rfl ?_
  all_goals simp only [push_cast, ↓brB_true, ↓brB_false, ↓reduceIte, zA, zB, zC, zD, zE, zF, zG, zH, zI, reduceCtorEq]
  all_goals repeat' (first | (apply brB_mk <;> (intro hg; (try simp only [push_cast] at hg))) | apply And.intro | (intro hg; (try simp only [push_cast] at hg)))
  all_goals first | exact gA | (exact getE_dII (by omega)) | skip
  all_goals first | (refine hK _ ?_; clear hK K) | (simp only [push_cast]; done)
  refine awp_block ?_
  refine awp_loopU [3,4,9,10,11,12,13,14,15,16,17,18,19,20,21,22,23,24,25,26] [50] (fun (k : Nat) => [(4, .int .i64 k), (3, .bp 3 0)]) (fun k => [(3, [.sl 48 [] 0 a.owner.length 2, .sl 49 [] 0 a.next.length 27, .sl 50 [] 0 k 27])]) (fun k => [(48, ⟨.ex, 2, dI a.owner, none⟩), (49, ⟨.ex, 27, dII a.next, none⟩), (50, ⟨.ex, 27, dII (xs.take k), none⟩)]) (fun k => k ≤ xs.length) (fun k => xs.length - k) 0 ?_ (by omega) ?_
  ·
    rw [show dII (xs.take 0) = [] from by simp [dII]]
    refine cov_of rfl ?_ ?_ ?_ <;> simp only [covS, covL, push_cast, ↓brB_true, ↓brB_false, ↓reduceIte, zA, zB, zC, zD, zE, zF, zG, zH, zI, reduceCtorEq]
  · rintro k hk KL0 hL0
    have htk : (xs.take k).length = k := by rw [List.length_take]; omega
    have hrk := hr k
    simp only [push_cast, ↓brB_true, ↓brB_false, ↓reduceIte, zA, zB, zC, zD, zE, zF, zG, zH, zI, reduceCtorEq]
    refine awp_seq' fun K2 hK2 => ?_
    refine awp_seq' fun K hK => ?_
    refine awp_region tyOk tyPos [] rfl ?_
    all_goals simp only [push_cast, ↓brB_true, ↓brB_false, ↓reduceIte, zA, zB, zC, zD, zE, zF, zG, zH, zI, reduceCtorEq]
    all_goals repeat' (first | (apply brB_mk <;> (intro hg; (try simp only [push_cast] at hg))) | apply And.intro | (intro hg; (try simp only [push_cast] at hg)))
    all_goals first | exact gA | (exact getE_dII (by omega)) | skip
    all_goals first | (refine hK _ ?_; clear hK K) | (simp only [push_cast]; done)
    refine awp_cond rfl (fun hc => ?_) (fun hc => ?_) <;> (try simp only [push_cast] at hc)
    ·
      refine awp_skip ?_
      (try simp only [AThen, ABlk, reduceIte, zF]); refine hK2 _ ?_
      refine awp_seq' fun K3 hK3 => ?_
      refine awp_block ?_
      refine awp_regionD1 false tyOk tyPos tyMix ?_ rfl ?_
      · kernel_rfl
      intro E hE
      all_goals refine lexF_cut 8 (by decide) fun K9 hK9 => ?_
      all_goals simp only [push_cast, ↓brB_true, ↓brB_false, ↓reduceIte, zA, zB, zC, zD, zE, zF, zG, zH, zI, reduceCtorEq]
      all_goals repeat' (first | (apply brB_mk <;> (intro hg; (try simp only [push_cast] at hg))) | (refine ⟨_, hC k, ?_⟩; simp only [push_cast, ↓brB_true, ↓brB_false, ↓reduceIte, zA, zB, zC, zD, zE, zF, zG, zH, zI, reduceCtorEq]) | apply And.intro | (intro hg; (try simp only [push_cast] at hg)))
      all_goals first | exact gA | (exact getE_dII (by omega)) | skip
      all_goals first | (refine hK9 _ _ ?_; clear hK9 K9) | (simp only [push_cast]; done)
      all_goals simp only [push_cast, ↓brB_true, ↓brB_false, ↓reduceIte, zA, zB, zC, zD, zE, zF, zG, zH, zI, reduceCtorEq]
      all_goals repeat' (first | (apply brB_mk <;> (intro hg; (try simp only [push_cast] at hg))) | (refine ⟨_, hC k, ?_⟩; simp only [push_cast, ↓brB_true, ↓brB_false, ↓reduceIte, zA, zB, zC, zD, zE, zF, zG, zH, zI, reduceCtorEq]) | apply And.intro | (intro hg; (try simp only [push_cast] at hg)))
      all_goals first | exact gA | (refine hE _ _ ?_ ?_; kernel_rfl) | (exact getE_dII (by omega)) | skip
      all_goals clear hE E
      (try simp only [AThen, ABlk, reduceIte, zF]); refine hK3 _ ?_
      refine awp_settleB [.sl 2, .sl 27, .sl 27] 3 ?_
      simp only [push_cast, ↓brB_true, ↓brB_false, ↓reduceIte, zA, zB, zC, zD, zE, zF, zG, zH, zI, reduceCtorEq]
      refine awp_region tyOk tyPos [] rfl ?_
      all_goals simp only [push_cast, ↓brB_true, ↓brB_false, ↓reduceIte, zA, zB, zC, zD, zE, zF, zG, zH, zI, reduceCtorEq]
      all_goals repeat' (first | (apply brB_mk <;> (intro hg; (try simp only [push_cast] at hg))) | apply And.intro | (intro hg; (try simp only [push_cast] at hg)))
      all_goals first | exact gA | (exact getE_dII (by omega)) | skip
      refine hL0 _ ⟨k + 1, by omega, by omega, ?_⟩
      (try rw [List.take_take, Nat.min_self])
      rw [take_snocL (by omega)]
      refine cov_of rfl ?_ ?_ ?_ <;> simp only [covS, covL, push_cast, ↓brB_true, ↓brB_false, ↓reduceIte, zA, zB, zC, zD, zE, zF, zG, zH, zI, reduceCtorEq]
    ·
      refine awp_exit ?_
      have hkk : k = xs.length := by omega
      subst hkk
      rw [List.take_length]
      (try simp only [AThen, ABlk, reduceIte, zF]); refine hK1 _ ?_
      refine awp_seq' fun K hK => ?_
      refine awp_region tyOk tyPos [] rfl ?_
      all_goals simp only [push_cast, ↓brB_true, ↓brB_false, ↓reduceIte, zA, zB, zC, zD, zE, zF, zG, zH, zI, reduceCtorEq]
      all_goals repeat' (first | (apply brB_mk <;> (intro hg; (try simp only [push_cast] at hg))) | apply And.intro | (intro hg; (try simp only [push_cast] at hg)))
      all_goals first | exact gA | (exact getE_dII (by omega)) | skip
      all_goals first | (refine hK _ ?_; clear hK K) | (simp only [push_cast]; done)
      refine awp_ret ?_
      (try simp only [AThen, ABlk])
      refine ⟨Or.inl rfl, ?_⟩
      simp only [RetOk, resVars, resVar, push_cast, ↓brB_true, ↓brB_false, ↓reduceIte, zA, zB, zC, zD, zE, zF, zG, zH, zI, reduceCtorEq]
      all_goals first | rfl | skip
def turnA (a : Ar) : Ar := ⟨a.owner.map (fun x => 1 - x), a.next⟩
def dualW (w : Wt) : Wt := if weightedB w then ⟨turnA w.a, w.cost.map (List.map fun x => -x)⟩ else ⟨⟨[], []⟩, []⟩
theorem dualW_no {w : Wt} (h : weightedB w = false) : dualW w = ⟨⟨[], []⟩, []⟩ := by unfold dualW; rw [h]; rfl
theorem dualW_yes {w : Wt} (h : weightedB w = true) : dualW w = ⟨turnA w.a, w.cost.map (List.map fun x => -x)⟩ := by unfold dualW; rw [h]; rfl
theorem LnII_map {B : Nat} {g : Int → Int} {xs : List (List Int)} (h : LnII B xs) : LnII B (xs.map (List.map g)) := by
  refine ⟨by rw [List.length_map]; exact h.1, fun r hr => ?_⟩
  obtain ⟨r', h', rfl⟩ := List.mem_map.1 hr
  rw [List.length_map]
  exact h.2 r' h'
set_option maxRecDepth 20000 in
set_option maxHeartbeats 4000000 in
theorem TurnedS_fn (a : Ar) (ha : a.Ln 1048576) (hok : arenaB a = true) : Fn Try.prog tyT 79 [.agg (dAr a)] [.agg (dAr (turnA a))] := by
  have h0 := ha.owner
  have h1 := ha.next.1
  unfold LnI at h0
  have hal := arenaB_len hok
  have hat := fun v (hv : v < a.owner.length) => arenaB_at hok hv
  have hO := ArenaOkS_fn a ha
  rw [hok] at hO
  have hC := l1CopyArena_fn a ha
  unfold turnA
  unfold dAr at hO hC ⊢
  refine Fn_ofR (fn := Try.f79) (rs := [.cell 2 30]) tyOk tyPos Try.func79 (by kernel_rfl) rfl rfl (by rw [Try.ntmps79]; exact Nat.le_of_ble_eq_true rfl) rfl (by simp only [szA, List.mem_cons, List.not_mem_nil, or_false, forall_eq_or_imp, forall_eq, VT.cells, szL]; try decide) ?_
  rw [Try.ntmps79]
  simp only [push_cast, ↓brB_true, ↓brB_false, ↓reduceIte, zA, zB, zC, zD, zE, zF, zG, zH, zI, reduceCtorEq]
  refine awp_seq' fun K hK => ?_
  refine awp_region tyOk tyPos [] rfl ?_
  all_goals simp only [push_cast, ↓brB_true, ↓brB_false, ↓reduceIte, zA, zB, zC, zD, zE, zF, zG, zH, zI, reduceCtorEq]
  all_goals repeat' (first | (apply brB_mk <;> (intro hg; (try simp only [push_cast] at hg))) | apply And.intro | (intro hg; (try simp only [push_cast] at hg)))
  all_goals first | exact gA | (rw [hmg (by omega)]; have := hat k (by omega); omega) | skip
  all_goals first | (refine hK _ ?_; clear hK K) | (simp only [push_cast]; done)
  refine awp_seq' fun K1 hK1 => ?_
  refine awp_seq' fun K hK => ?_
  refine awp_region tyOk tyPos [] rfl ?_
  all_goals refine aops_cut 2 fun K9 hK9 => ?_
  all_goals simp only [push_cast, ↓brB_true, ↓brB_false, ↓reduceIte, zA, zB, zC, zD, zE, zF, zG, zH, zI, reduceCtorEq]
  all_goals repeat' (first | (apply brB_mk <;> (intro hg; (try simp only [push_cast] at hg))) | (refine ⟨_, hO, ?_⟩; simp only [push_cast, ↓brB_true, ↓brB_false, ↓reduceIte, zA, zB, zC, zD, zE, zF, zG, zH, zI, reduceCtorEq]) | apply And.intro | (intro hg; (try simp only [push_cast] at hg)))
  all_goals first | exact gA | (rw [hmg (by omega)]; have := hat k (by omega); omega) | skip
  all_goals first | (refine hK9 _ ?_; clear hK9 K9) | (simp only [push_cast]; done)
  all_goals simp only [push_cast, ↓brB_true, ↓brB_false, ↓reduceIte, zA, zB, zC, zD, zE, zF, zG, zH, zI, reduceCtorEq]
  all_goals repeat' (first | (apply brB_mk <;> (intro hg; (try simp only [push_cast] at hg))) | (refine ⟨_, hO, ?_⟩; simp only [push_cast, ↓brB_true, ↓brB_false, ↓reduceIte, zA, zB, zC, zD, zE, zF, zG, zH, zI, reduceCtorEq]) | apply And.intro | (intro hg; (try simp only [push_cast] at hg)))
  all_goals first | exact gA | (rw [hmg (by omega)]; have := hat k (by omega); omega) | skip
  all_goals first | (refine hK _ ?_; clear hK K) | (simp only [push_cast]; done)
  refine awp_cond rfl (fun hc => ?_) (fun hc => ?_)
  skip
  · exfalso; first | (cases hc; done) | (simp only [push_cast] at hc; done) | (simp only [push_cast] at hc; omega) | omega
  refine awp_skip ?_
  (try simp only [AThen, ABlk, reduceIte, zF]); refine hK1 _ ?_
  refine awp_seq' fun K hK => ?_
  refine awp_region tyOk tyPos [] rfl ?_
  all_goals refine aops_cut 2 fun K9 hK9 => ?_
  all_goals simp only [push_cast, ↓brB_true, ↓brB_false, ↓reduceIte, zA, zB, zC, zD, zE, zF, zG, zH, zI, reduceCtorEq]
  all_goals repeat' (first | (apply brB_mk <;> (intro hg; (try simp only [push_cast] at hg))) | (refine ⟨_, hC, ?_⟩; simp only [push_cast, ↓brB_true, ↓brB_false, ↓reduceIte, zA, zB, zC, zD, zE, zF, zG, zH, zI, reduceCtorEq]) | apply And.intro | (intro hg; (try simp only [push_cast] at hg)))
  all_goals first | exact gA | (rw [hmg (by omega)]; have := hat k (by omega); omega) | skip
  all_goals first | (refine hK9 _ ?_; clear hK9 K9) | (simp only [push_cast]; done)
  all_goals simp only [push_cast, ↓brB_true, ↓brB_false, ↓reduceIte, zA, zB, zC, zD, zE, zF, zG, zH, zI, reduceCtorEq]
  all_goals repeat' (first | (apply brB_mk <;> (intro hg; (try simp only [push_cast] at hg))) | (refine ⟨_, hC, ?_⟩; simp only [push_cast, ↓brB_true, ↓brB_false, ↓reduceIte, zA, zB, zC, zD, zE, zF, zG, zH, zI, reduceCtorEq]) | apply And.intro | (intro hg; (try simp only [push_cast] at hg)))
  all_goals first | exact gA | (rw [hmg (by omega)]; have := hat k (by omega); omega) | skip
  all_goals first | (refine hK _ ?_; clear hK K) | (simp only [push_cast]; done)
  refine awp_seq' fun K2 hK2 => ?_
  refine awp_seq' fun K hK => ?_
  refine awp_region tyOk tyPos [] rfl ?_
  all_goals simp only [push_cast, ↓brB_true, ↓brB_false, ↓reduceIte, zA, zB, zC, zD, zE, zF, zG, zH, zI, reduceCtorEq]
  all_goals repeat' (first | (apply brB_mk <;> (intro hg; (try simp only [push_cast] at hg))) | apply And.intro | (intro hg; (try simp only [push_cast] at hg)))
  all_goals first | exact gA | (rw [hmg (by omega)]; have := hat k (by omega); omega) | skip
  all_goals first | (refine hK _ ?_; clear hK K) | (simp only [push_cast]; done)
  refine awp_block ?_
  refine awp_loopU [3,4,11,12,13,14,15,16,17,18,19,20,21,22,23,24,25,26,27] [48] (fun (k : Nat) => [(4, .int .i64 k), (3, .bp 3 0)]) (fun k => [(3, [.sl 48 [] 0 a.owner.length 2, .sl 49 [] 0 a.next.length 27])]) (fun k => [(48, ⟨.ex, 2, dI (mapI (fun x => 1 - x) a.owner k), none⟩), (49, ⟨.ex, 27, dII a.next, none⟩)]) (fun k => k ≤ a.owner.length) (fun k => a.owner.length - k) 0 ?_ (by omega) ?_
  ·
    rw [mapI_0]
    refine cov_of rfl ?_ ?_ ?_ <;> simp only [covS, covL, push_cast, ↓brB_true, ↓brB_false, ↓reduceIte, zA, zB, zC, zD, zE, zF, zG, zH, zI, reduceCtorEq]
  · rintro k hk KL0 hL0
    have hml := mapI_len (g := fun x => 1 - x) hk
    have hmg : k < a.owner.length → gi (mapI (fun x => 1 - x) a.owner k) k = gi a.owner k := fun h => mapI_gi h
    simp only [push_cast, ↓brB_true, ↓brB_false, ↓reduceIte, zA, zB, zC, zD, zE, zF, zG, zH, zI, reduceCtorEq]
    refine awp_seq' fun K3 hK3 => ?_
    refine awp_seq' fun K hK => ?_
    refine awp_region tyOk tyPos [] rfl ?_
    all_goals simp only [push_cast, ↓brB_true, ↓brB_false, ↓reduceIte, zA, zB, zC, zD, zE, zF, zG, zH, zI, reduceCtorEq]
    all_goals repeat' (first | (apply brB_mk <;> (intro hg; (try simp only [push_cast] at hg))) | apply And.intro | (intro hg; (try simp only [push_cast] at hg)))
    all_goals first | exact gA | (rw [hmg (by omega)]; have := hat k (by omega); omega) | skip
    all_goals first | (refine hK _ ?_; clear hK K) | (simp only [push_cast]; done)
    refine awp_cond rfl (fun hc => ?_) (fun hc => ?_) <;> (try simp only [push_cast] at hc)
    ·
      refine awp_skip ?_
      (try simp only [AThen, ABlk, reduceIte, zF]); refine hK3 _ ?_
      refine awp_seq' fun K4 hK4 => ?_
      refine awp_block ?_
      refine awp_regionD1 false tyOk tyPos tyMix ?_ rfl ?_
      · kernel_rfl
      intro E hE
      all_goals simp only [push_cast, ↓brB_true, ↓brB_false, ↓reduceIte, zA, zB, zC, zD, zE, zF, zG, zH, zI, reduceCtorEq]
      all_goals repeat' (first | (apply brB_mk <;> (intro hg; (try simp only [push_cast] at hg))) | apply And.intro | (intro hg; (try simp only [push_cast] at hg)))
      all_goals first | exact gA | (refine hE _ _ ?_ ?_; kernel_rfl) | (rw [hmg (by omega)]; have := hat k (by omega); omega) | skip
      all_goals clear hE E
      (try simp only [AThen, ABlk, reduceIte, zF]); refine hK4 _ ?_
      refine awp_region tyOk tyPos [] rfl ?_
      all_goals simp only [push_cast, ↓brB_true, ↓brB_false, ↓reduceIte, zA, zB, zC, zD, zE, zF, zG, zH, zI, reduceCtorEq]
      all_goals repeat' (first | (apply brB_mk <;> (intro hg; (try simp only [push_cast] at hg))) | apply And.intro | (intro hg; (try simp only [push_cast] at hg)))
      all_goals first | exact gA | (rw [hmg (by omega)]; have := hat k (by omega); omega) | skip
      rw [hmg (by omega), show (1 : Int) - gi a.owner k = (fun x => 1 - x) (gi a.owner k) from rfl, mapI_set (by omega)]
      refine hL0 _ ⟨k + 1, by omega, by omega, ?_⟩
      refine cov_of rfl ?_ ?_ ?_ <;> simp only [covS, covL, push_cast, ↓brB_true, ↓brB_false, ↓reduceIte, zA, zB, zC, zD, zE, zF, zG, zH, zI, reduceCtorEq]
    ·
      refine awp_exit ?_
      have hkk : k = a.owner.length := by omega
      subst hkk
      rw [mapI_all]
      (try simp only [AThen, ABlk, reduceIte, zF]); refine hK2 _ ?_
      refine awp_seq' fun K hK => ?_
      refine awp_region tyOk tyPos [] rfl ?_
      all_goals simp only [push_cast, ↓brB_true, ↓brB_false, ↓reduceIte, zA, zB, zC, zD, zE, zF, zG, zH, zI, reduceCtorEq]
      all_goals repeat' (first | (apply brB_mk <;> (intro hg; (try simp only [push_cast] at hg))) | apply And.intro | (intro hg; (try simp only [push_cast] at hg)))
      all_goals first | exact gA | (rw [hmg (by omega)]; have := hat k (by omega); omega) | skip
      all_goals first | (refine hK _ ?_; clear hK K) | (simp only [push_cast]; done)
      refine awp_ret ?_
      (try simp only [AThen, ABlk])
      refine ⟨Or.inl rfl, ?_⟩
      simp only [RetOk, resVars, resVar, push_cast, ↓brB_true, ↓brB_false, ↓reduceIte, zA, zB, zC, zD, zE, zF, zG, zH, zI, reduceCtorEq]
      all_goals first | rfl | (simp; done)
set_option maxRecDepth 20000 in
set_option maxHeartbeats 4000000 in
theorem DualS_fn1 (w : Wt) (ha : w.Ln 1048576) (hw : weightedB w = true) : Fn Try.prog tyT 30 [.agg (dWt w)] [.agg (dWt ⟨turnA w.a, w.cost.map (List.map fun x => -x)⟩)] := by
  have h0 := ha.a.owner
  have h1 := ha.a.next.1
  have h2 := ha.cost.1
  unfold LnI at h0
  have hcr : ∀ v, (gl w.cost v).length ≤ 1048576 := fun v => gl_le ha.cost v
  obtain ⟨hok, hn1, hn2, hn3, hn4, hrow⟩ := weighted_facts hw
  have hW := WeightedOkS_fn w ha
  have hT := TurnedS_fn w.a ha.a hok
  have hC := l20Copy_fn w ha
  unfold dAr at hT
  unfold dWt at hC
  rw [hw] at hW
  unfold turnA at hT ⊢
  unfold dWt at hW ⊢
  dsimp only at hT ⊢
  refine Fn_ofR (fn := Try.f30) (rs := [.cell 2 32]) tyOk tyPos Try.func30 (by kernel_rfl) rfl rfl (by rw [Try.ntmps30]; exact Nat.le_of_ble_eq_true rfl) rfl (by simp only [szA, List.mem_cons, List.not_mem_nil, or_false, forall_eq_or_imp, forall_eq, VT.cells, szL]; try decide) ?_
  rw [Try.ntmps30]
  simp only [push_cast, ↓brB_true, ↓brB_false, ↓reduceIte, zA, zB, zC, zD, zE, zF, zG, zH, zI, reduceCtorEq]
  refine awp_seq' fun K hK => ?_
  refine awp_region tyOk tyPos [] rfl ?_
  all_goals simp only [push_cast, ↓brB_true, ↓brB_false, ↓reduceIte, zA, zB, zC, zD, zE, zF, zG, zH, zI, reduceCtorEq]
  all_goals repeat' (first | (apply brB_mk <;> (intro hg; (try simp only [push_cast] at hg))) | apply And.intro | (intro hg; (try simp only [push_cast] at hg)))
  all_goals first | exact gA | (exact getE_dII (by omega)) | (have h8 := hvi (by omega); have := hcst (by omega); omega) | skip
  all_goals first | (refine hK _ ?_; clear hK K) | (simp only [push_cast]; done)
  refine awp_seq' fun K1 hK1 => ?_
  refine awp_seq' fun K hK => ?_
  refine awp_region tyOk tyPos [] rfl ?_
  all_goals refine aops_cut 2 fun K9 hK9 => ?_
  all_goals simp only [push_cast, ↓brB_true, ↓brB_false, ↓reduceIte, zA, zB, zC, zD, zE, zF, zG, zH, zI, reduceCtorEq]
  all_goals repeat' (first | (apply brB_mk <;> (intro hg; (try simp only [push_cast] at hg))) | (refine ⟨_, hW, ?_⟩; simp only [push_cast, ↓brB_true, ↓brB_false, ↓reduceIte, zA, zB, zC, zD, zE, zF, zG, zH, zI, reduceCtorEq]) | apply And.intro | (intro hg; (try simp only [push_cast] at hg)))
  all_goals first | exact gA | (exact getE_dII (by omega)) | (have h8 := hvi (by omega); have := hcst (by omega); omega) | skip
  all_goals first | (refine hK9 _ ?_; clear hK9 K9) | (simp only [push_cast]; done)
  all_goals simp only [push_cast, ↓brB_true, ↓brB_false, ↓reduceIte, zA, zB, zC, zD, zE, zF, zG, zH, zI, reduceCtorEq]
  all_goals repeat' (first | (apply brB_mk <;> (intro hg; (try simp only [push_cast] at hg))) | (refine ⟨_, hW, ?_⟩; simp only [push_cast, ↓brB_true, ↓brB_false, ↓reduceIte, zA, zB, zC, zD, zE, zF, zG, zH, zI, reduceCtorEq]) | apply And.intro | (intro hg; (try simp only [push_cast] at hg)))
  all_goals first | exact gA | (exact getE_dII (by omega)) | (have h8 := hvi (by omega); have := hcst (by omega); omega) | skip
  all_goals first | (refine hK _ ?_; clear hK K) | (simp only [push_cast]; done)
  refine awp_cond rfl (fun hc => ?_) (fun hc => ?_)
  skip
  · exfalso; first | (cases hc; done) | (simp only [push_cast] at hc; done) | (simp only [push_cast] at hc; omega) | omega
  refine awp_skip ?_
  (try simp only [AThen, ABlk, reduceIte, zF]); refine hK1 _ ?_
  refine awp_seq' fun K hK => ?_
  refine awp_region tyOk tyPos [] rfl ?_
  all_goals refine aops_cut 2 fun K9 hK9 => ?_
  all_goals simp only [push_cast, ↓brB_true, ↓brB_false, ↓reduceIte, zA, zB, zC, zD, zE, zF, zG, zH, zI, reduceCtorEq]
  all_goals repeat' (first | (apply brB_mk <;> (intro hg; (try simp only [push_cast] at hg))) | (refine ⟨_, hC, ?_⟩; simp only [push_cast, ↓brB_true, ↓brB_false, ↓reduceIte, zA, zB, zC, zD, zE, zF, zG, zH, zI, reduceCtorEq]) | apply And.intro | (intro hg; (try simp only [push_cast] at hg)))
  all_goals first | exact gA | (exact getE_dII (by omega)) | (have h8 := hvi (by omega); have := hcst (by omega); omega) | skip
  all_goals first | (refine hK9 _ ?_; clear hK9 K9) | (simp only [push_cast]; done)
  all_goals simp only [push_cast, ↓brB_true, ↓brB_false, ↓reduceIte, zA, zB, zC, zD, zE, zF, zG, zH, zI, reduceCtorEq]
  all_goals repeat' (first | (apply brB_mk <;> (intro hg; (try simp only [push_cast] at hg))) | (refine ⟨_, hC, ?_⟩; simp only [push_cast, ↓brB_true, ↓brB_false, ↓reduceIte, zA, zB, zC, zD, zE, zF, zG, zH, zI, reduceCtorEq]) | apply And.intro | (intro hg; (try simp only [push_cast] at hg)))
  all_goals first | exact gA | (exact getE_dII (by omega)) | (have h8 := hvi (by omega); have := hcst (by omega); omega) | skip
  all_goals first | (refine hK _ ?_; clear hK K) | (simp only [push_cast]; done)
  refine awp_seq' fun K hK => ?_
  refine awp_region tyOk tyPos [] rfl ?_
  all_goals refine aops_cut 3 fun K9 hK9 => ?_
  all_goals simp only [push_cast, ↓brB_true, ↓brB_false, ↓reduceIte, zA, zB, zC, zD, zE, zF, zG, zH, zI, reduceCtorEq]
  all_goals repeat' (first | (apply brB_mk <;> (intro hg; (try simp only [push_cast] at hg))) | (refine ⟨_, hT, ?_⟩; simp only [push_cast, ↓brB_true, ↓brB_false, ↓reduceIte, zA, zB, zC, zD, zE, zF, zG, zH, zI, reduceCtorEq]) | apply And.intro | (intro hg; (try simp only [push_cast] at hg)))
  all_goals first | exact gA | (exact getE_dII (by omega)) | (have h8 := hvi (by omega); have := hcst (by omega); omega) | skip
  all_goals first | (refine hK9 _ ?_; clear hK9 K9) | (simp only [push_cast]; done)
  all_goals simp only [push_cast, ↓brB_true, ↓brB_false, ↓reduceIte, zA, zB, zC, zD, zE, zF, zG, zH, zI, reduceCtorEq]
  all_goals repeat' (first | (apply brB_mk <;> (intro hg; (try simp only [push_cast] at hg))) | (refine ⟨_, hT, ?_⟩; simp only [push_cast, ↓brB_true, ↓brB_false, ↓reduceIte, zA, zB, zC, zD, zE, zF, zG, zH, zI, reduceCtorEq]) | apply And.intro | (intro hg; (try simp only [push_cast] at hg)))
  all_goals first | exact gA | (exact getE_dII (by omega)) | (have h8 := hvi (by omega); have := hcst (by omega); omega) | skip
  all_goals first | (refine hK _ ?_; clear hK K) | (simp only [push_cast]; done)
  refine awp_seq' fun K2 hK2 => ?_
  refine awp_seq' fun K hK => ?_
  refine awp_region tyOk tyPos [] rfl ?_
  all_goals simp only [push_cast, ↓brB_true, ↓brB_false, ↓reduceIte, zA, zB, zC, zD, zE, zF, zG, zH, zI, reduceCtorEq]
  all_goals repeat' (first | (apply brB_mk <;> (intro hg; (try simp only [push_cast] at hg))) | apply And.intro | (intro hg; (try simp only [push_cast] at hg)))
  all_goals first | exact gA | (exact getE_dII (by omega)) | (have h8 := hvi (by omega); have := hcst (by omega); omega) | skip
  all_goals first | (refine hK _ ?_; clear hK K) | (simp only [push_cast]; done)
  refine awp_block ?_
  refine awp_loopU [3,4,5,16,17,18,19,20,21,22,23,24,25,26,27,28,29,30,31,32,33,34,35,36,37,38,39,40,41,42,43,44,45,46,47,48] [50] (fun (v : Nat) => [(4, .int .i64 v), (3, .bp 3 0)]) (fun v => [(3, [.sl 48 [] 0 (w.a.owner.map (fun x => 1 - x)).length 2, .sl 49 [] 0 w.a.next.length 27, .sl 50 [] 0 w.cost.length 27])]) (fun v => [(50, ⟨.ex, 27, dII (mapR (fun x => -x) w.cost v), none⟩), (48, ⟨.ex, 2, dI (w.a.owner.map (fun x => 1 - x)), none⟩), (49, ⟨.ex, 27, dII w.a.next, none⟩)]) (fun v => v ≤ w.cost.length) (fun v => w.cost.length - v) 0 ?_ (by omega) ?_
  ·
    rw [mapR_0]
    refine cov_of rfl ?_ ?_ ?_ <;> simp only [covS, covL, push_cast, ↓brB_true, ↓brB_false, ↓reduceIte, zA, zB, zC, zD, zE, zF, zG, zH, zI, reduceCtorEq]
  · rintro v hv KL0 hL0
    have hml := mapR_len (g := (fun x => -x)) hv
    have hmg : v < w.cost.length → gl (mapR (fun x => -x) w.cost v) v = gl w.cost v := fun h => mapR_gl h
    have hrv := hcr v
    have hmgl : v < w.cost.length → (gl (mapR (fun x => -x) w.cost v) v).length = (gl w.cost v).length := fun h => by rw [hmg h]
    simp only [push_cast, ↓brB_true, ↓brB_false, ↓reduceIte, zA, zB, zC, zD, zE, zF, zG, zH, zI, reduceCtorEq]
    refine awp_seq' fun K3 hK3 => ?_
    refine awp_seq' fun K hK => ?_
    refine awp_region tyOk tyPos [] rfl ?_
    all_goals simp only [push_cast, ↓brB_true, ↓brB_false, ↓reduceIte, zA, zB, zC, zD, zE, zF, zG, zH, zI, reduceCtorEq]
    all_goals repeat' (first | (apply brB_mk <;> (intro hg; (try simp only [push_cast] at hg))) | apply And.intro | (intro hg; (try simp only [push_cast] at hg)))
    all_goals first | exact gA | (exact getE_dII (by omega)) | (have h8 := hvi (by omega); have := hcst (by omega); omega) | skip
    all_goals first | (refine hK _ ?_; clear hK K) | (simp only [push_cast]; done)
    refine awp_cond rfl (fun hc => ?_) (fun hc => ?_) <;> (try simp only [push_cast] at hc)
    ·
      refine awp_skip ?_
      (try simp only [AThen, ABlk, reduceIte, zF]); refine hK3 _ ?_
      refine awp_seq' fun K4 hK4 => ?_
      refine awp_block ?_
      refine awp_seq' fun K hK => ?_
      refine awp_region tyOk tyPos [] rfl ?_
      all_goals simp only [push_cast, ↓brB_true, ↓brB_false, ↓reduceIte, zA, zB, zC, zD, zE, zF, zG, zH, zI, reduceCtorEq]
      all_goals repeat' (first | (apply brB_mk <;> (intro hg; (try simp only [push_cast] at hg))) | apply And.intro | (intro hg; (try simp only [push_cast] at hg)))
      all_goals first | exact gA | (exact getE_dII (by omega)) | (have h8 := hvi (by omega); have := hcst (by omega); omega) | skip
      all_goals first | (refine hK _ ?_; clear hK K) | (simp only [push_cast]; done)
      refine awp_block ?_
      refine awp_loopU [3,5,23,24,25,26,27,28,29,30,31,32,33,34,35,36,37,38,39,40,41,42,43,44,45,46,47,48] [50] (fun (k : Nat) => [(5, .int .i64 k), (3, .bp 3 0)]) (fun k => [(3, [.sl 48 [] 0 (w.a.owner.map (fun x => 1 - x)).length 2, .sl 49 [] 0 w.a.next.length 27, .sl 50 [] 0 w.cost.length 27])]) (fun k => [(50, ⟨.ex, 27, dII (mapV (fun x => -x) w.cost v k), none⟩), (48, ⟨.ex, 2, dI (w.a.owner.map (fun x => 1 - x)), none⟩), (49, ⟨.ex, 27, dII w.a.next, none⟩)]) (fun k => k ≤ (gl w.cost v).length) (fun k => (gl w.cost v).length - k) 0 ?_ (by omega) ?_
      ·
        rw [mapV_0 (by omega)]
        refine cov_of rfl ?_ ?_ ?_ <;> simp only [covS, covL, push_cast, ↓brB_true, ↓brB_false, ↓reduceIte, zA, zB, zC, zD, zE, zF, zG, zH, zI, reduceCtorEq]
      · rintro k hk KL1 hL1
        have hvl : (mapV (fun x => -x) w.cost v k).length = w.cost.length := mapV_len (by omega)
        have hvg : gl (mapV (fun x => -x) w.cost v k) v = mapI (fun x => -x) (gl w.cost v) k := mapV_gl (by omega)
        have hil := mapI_len (g := (fun x => -x)) hk
        have hvl2 : (gl (mapV (fun x => -x) w.cost v k) v).length = (gl w.cost v).length := by rw [hvg, hil]
        have hvi : k < (gl w.cost v).length → gi (gl (mapV (fun x => -x) w.cost v k) v) k = gi (gl w.cost v) k := fun h => by rw [hvg]; exact mapI_gi h
        have hig : k < (gl w.cost v).length → gi (mapI (fun x => -x) (gl w.cost v) k) k = gi (gl w.cost v) k := fun h => mapI_gi h
        have hcst : k < (gl w.cost v).length → -1000 ≤ gi (gl w.cost v) k ∧ gi (gl w.cost v) k ≤ 1000 := fun h => (hrow v (by omega)).2.2.2 k h
        simp only [push_cast, ↓brB_true, ↓brB_false, ↓reduceIte, zA, zB, zC, zD, zE, zF, zG, zH, zI, reduceCtorEq]
        refine awp_seq' fun K5 hK5 => ?_
        refine awp_seq' fun K hK => ?_
        refine awp_region tyOk tyPos [] rfl ?_
        all_goals simp only [push_cast, ↓brB_true, ↓brB_false, ↓reduceIte, zA, zB, zC, zD, zE, zF, zG, zH, zI, reduceCtorEq]
        all_goals repeat' (first | (apply brB_mk <;> (intro hg; (try simp only [push_cast] at hg))) | apply And.intro | (intro hg; (try simp only [push_cast] at hg)))
        all_goals first | exact gA | (exact getE_dII (by omega)) | (have h8 := hvi (by omega); have := hcst (by omega); omega) | skip
        all_goals first | (refine hK _ ?_; clear hK K) | (simp only [push_cast]; done)
        refine awp_cond rfl (fun hc => ?_) (fun hc => ?_) <;> (try simp only [push_cast] at hc)
        ·
          refine awp_skip ?_
          (try simp only [AThen, ABlk, reduceIte, zF]); refine hK5 _ ?_
          refine awp_seq' fun K6 hK6 => ?_
          refine awp_block ?_
          refine awp_regionD1 false tyOk tyPos tyMix ?_ rfl ?_
          · kernel_rfl
          intro E hE
          all_goals simp only [push_cast, ↓brB_true, ↓brB_false, ↓reduceIte, zA, zB, zC, zD, zE, zF, zG, zH, zI, reduceCtorEq]
          all_goals repeat' (first | (apply brB_mk <;> (intro hg; (try simp only [push_cast] at hg))) | apply And.intro | (intro hg; (try simp only [push_cast] at hg)))
          all_goals first | exact gA | (refine hE _ _ ?_ ?_; kernel_rfl) | (exact getE_dII (by omega)) | (have h8 := hvi (by omega); have := hcst (by omega); omega) | skip
          all_goals clear hE E
          (try simp only [AThen, ABlk, reduceIte, zF]); refine hK6 _ ?_
          refine awp_region tyOk tyPos [] rfl ?_
          all_goals simp only [push_cast, ↓brB_true, ↓brB_false, ↓reduceIte, zA, zB, zC, zD, zE, zF, zG, zH, zI, reduceCtorEq]
          all_goals repeat' (first | (apply brB_mk <;> (intro hg; (try simp only [push_cast] at hg))) | apply And.intro | (intro hg; (try simp only [push_cast] at hg)))
          all_goals first | exact gA | (exact getE_dII (by omega)) | (have h8 := hvi (by omega); have := hcst (by omega); omega) | skip
          have e9 : gi (gl (mapV (fun x => -x) w.cost v k) v) k = gi (gl w.cost v) k := by rw [hvg, hig (by omega)]
          rw [setAt_dII _ _ _ _ (by omega)]
          rw [e9, mapV_set (g := fun x => -x) (by omega) (by omega)]
          refine hL1 _ ⟨k + 1, by omega, by omega, ?_⟩
          refine cov_of rfl ?_ ?_ ?_ <;> simp only [covS, covL, push_cast, ↓brB_true, ↓brB_false, ↓reduceIte, zA, zB, zC, zD, zE, zF, zG, zH, zI, reduceCtorEq]
        ·
          refine awp_exit ?_
          have hkk : k = (gl w.cost v).length := by omega
          subst hkk
          (try simp only [AThen, ABlk, reduceIte, zF]); refine hK4 _ ?_
          refine awp_region tyOk tyPos [] rfl ?_
          all_goals simp only [push_cast, ↓brB_true, ↓brB_false, ↓reduceIte, zA, zB, zC, zD, zE, zF, zG, zH, zI, reduceCtorEq]
          all_goals repeat' (first | (apply brB_mk <;> (intro hg; (try simp only [push_cast] at hg))) | apply And.intro | (intro hg; (try simp only [push_cast] at hg)))
          all_goals first | exact gA | (exact getE_dII (by omega)) | (have h8 := hvi (by omega); have := hcst (by omega); omega) | skip
          refine hL0 _ ⟨v + 1, by omega, by omega, ?_⟩
          rw [mapV_all (by omega)]
          refine cov_of rfl ?_ ?_ ?_ <;> simp only [covS, covL, push_cast, ↓brB_true, ↓brB_false, ↓reduceIte, zA, zB, zC, zD, zE, zF, zG, zH, zI, reduceCtorEq]
    ·
      refine awp_exit ?_
      have hkv : v = w.cost.length := by omega
      subst hkv
      rw [mapR_all]
      (try simp only [AThen, ABlk, reduceIte, zF]); refine hK2 _ ?_
      refine awp_seq' fun K hK => ?_
      refine awp_region tyOk tyPos [] rfl ?_
      all_goals simp only [push_cast, ↓brB_true, ↓brB_false, ↓reduceIte, zA, zB, zC, zD, zE, zF, zG, zH, zI, reduceCtorEq]
      all_goals repeat' (first | (apply brB_mk <;> (intro hg; (try simp only [push_cast] at hg))) | apply And.intro | (intro hg; (try simp only [push_cast] at hg)))
      all_goals first | exact gA | (exact getE_dII (by omega)) | (have h8 := hvi (by omega); have := hcst (by omega); omega) | skip
      all_goals first | (refine hK _ ?_; clear hK K) | (simp only [push_cast]; done)
      refine awp_ret ?_
      (try simp only [AThen, ABlk])
      refine ⟨Or.inl rfl, ?_⟩
      simp only [RetOk, resVars, resVar, push_cast, ↓brB_true, ↓brB_false, ↓reduceIte, zA, zB, zC, zD, zE, zF, zG, zH, zI, reduceCtorEq]
      all_goals first | rfl | (simp; done)
set_option maxRecDepth 20000 in
set_option maxHeartbeats 4000000 in
theorem DualS_fn0 (w : Wt) (ha : w.Ln 1048576) (hw : weightedB w = false) : Fn Try.prog tyT 30 [.agg (dWt w)] [.agg (dWt ⟨⟨[], []⟩, []⟩)] := by
  have hW := WeightedOkS_fn w ha
  rw [hw] at hW
  unfold dWt at hW ⊢
  dsimp only
  refine Fn_ofR (fn := Try.f30) (rs := [.cell 2 32]) tyOk tyPos Try.func30 (by kernel_rfl) rfl rfl (by rw [Try.ntmps30]; exact Nat.le_of_ble_eq_true rfl) rfl (by simp only [szA, List.mem_cons, List.not_mem_nil, or_false, forall_eq_or_imp, forall_eq, VT.cells, szL]; try decide) ?_
  rw [Try.ntmps30]
  simp only [push_cast, ↓brB_true, ↓brB_false, ↓reduceIte, zA, zB, zC, zD, zE, zF, zG, zH, zI, reduceCtorEq]
  refine awp_seq' fun K hK => ?_
  refine awp_region tyOk tyPos [] rfl ?_
  simp only [push_cast, ↓brB_true, ↓brB_false, ↓reduceIte, zA, zB, zC, zD, zE, zF, zG, zH, zI, reduceCtorEq]
  repeat' apply And.intro
  all_goals try exact gB
  all_goals first | (refine hK _ ?_; clear hK K) | (simp only [push_cast]; done)
  refine awp_seq' fun K1 hK1 => ?_
  refine awp_seq' fun K hK => ?_
  refine awp_region tyOk tyPos [] rfl ?_
  all_goals refine aops_cut 2 fun K9 hK9 => ?_
  all_goals simp only [push_cast, ↓brB_true, ↓brB_false, ↓reduceIte, zA, zB, zC, zD, zE, zF, zG, zH, zI, reduceCtorEq]
  all_goals repeat' (first | (apply brB_mk <;> (intro hg; (try simp only [push_cast] at hg))) | (refine ⟨_, hW, ?_⟩; simp only [push_cast, ↓brB_true, ↓brB_false, ↓reduceIte, zA, zB, zC, zD, zE, zF, zG, zH, zI, reduceCtorEq]) | apply And.intro | (intro hg; (try simp only [push_cast] at hg)))
  all_goals try exact gA
  all_goals first | (refine hK9 _ ?_; clear hK9 K9) | (simp only [push_cast]; done)
  all_goals simp only [push_cast, ↓brB_true, ↓brB_false, ↓reduceIte, zA, zB, zC, zD, zE, zF, zG, zH, zI, reduceCtorEq]
  all_goals repeat' (first | (apply brB_mk <;> (intro hg; (try simp only [push_cast] at hg))) | (refine ⟨_, hW, ?_⟩; simp only [push_cast, ↓brB_true, ↓brB_false, ↓reduceIte, zA, zB, zC, zD, zE, zF, zG, zH, zI, reduceCtorEq]) | apply And.intro | (intro hg; (try simp only [push_cast] at hg)))
  all_goals try exact gA
  all_goals first | (refine hK _ ?_; clear hK K) | (simp only [push_cast]; done)
  refine awp_cond rfl (fun hc => ?_) (fun hc => ?_)
  rotate_left
  · exfalso; first | (cases hc; done) | (simp only [push_cast] at hc; done) | (simp only [push_cast] at hc; omega) | omega
  refine awp_seq' fun K hK => ?_
  refine awp_region tyOk tyPos [] rfl ?_
  simp only [push_cast, ↓brB_true, ↓brB_false, ↓reduceIte, zA, zB, zC, zD, zE, zF, zG, zH, zI, reduceCtorEq]
  repeat' apply And.intro
  all_goals try exact gB
  all_goals first | (refine hK _ ?_; clear hK K) | (simp only [push_cast]; done)
  refine awp_ret ?_
  (try simp only [AThen, ABlk])
  refine ⟨Or.inl rfl, ?_⟩
  simp only [RetOk, resVars, resVar, push_cast, ↓brB_true, ↓brB_false, ↓reduceIte, zA, zB, zC, zD, zE, zF, zG, zH, zI, reduceCtorEq]
  exact ⟨by decide, rfl, rfl⟩
theorem DualS_fn (w : Wt) (ha : w.Ln 1048576) : Fn Try.prog tyT 30 [.agg (dWt w)] [.agg (dWt (dualW w))] := by
  by_cases h : weightedB w = true
  · rw [dualW_yes h]; exact DualS_fn1 w ha h
  · rw [dualW_no (by simpa using h)]; exact DualS_fn0 w ha (by simpa using h)
end Go.Proofs.Ytdbecmmeifdafaa

namespace Go.Proofs.Ytdbecmmeifdafaa
open Nat renaming reduceMod → zA, reduceMul → zB, reduceDiv → zC, reduceAdd → zD, reduceSub → zE, reduceEqDiff → zF, reduceBEq → zG, reduceLT → zH, reduceLeDiff → zI
open Go.RowKit
set_option linter.unusedVariables false
set_option linter.unusedSimpArgs false

end Go.Proofs.Ytdbecmmeifdafaa

namespace Go.Proofs.Ytdbecmmeifdafaa
open Go Go.RowKit
set_option linter.unusedVariables false
def St.settleBA (al : List Nat) (ks : List CK) (b : Nat) (st : St) : St :=
  match lk st.b b with
  | none => st
  | some cells =>
    match lk (homL al ks st (home b 0) [] cells).1.b b with
    | none => st
    | some cells' => if cells'.length = (homL al ks st (home b 0) [] cells).2.length then (homL al ks st (home b 0) [] cells).1.setB b (homL al ks st (home b 0) [] cells).2 else st
theorem awp_settleBA {P : Program} {τ : Ty} (al : List Nat) (ks : List CK) (b : Nat) {c : Code} {Q : Exit → St → Prop} {st : St} (h : awp P τ c Q (st.settleBA al ks b)) : awp P τ c Q st := by
  unfold St.settleBA at h
  split at h
  · exact h
  · rename_i cells hl
    split at h
    · exact h
    · rename_i cells' hl'
      split at h
      · rename_i hlen
        intro lo w0 a w hr
        obtain ⟨ow, hd, bk, hrr⟩ := hr
        obtain ⟨cs, ty, g1, g2, g3⟩ := hrr.box b cells hl
        obtain ⟨ow1, hd1, r1, r2⟩ := homL_sound al ks st ow hd (home b 0) [] cells [] cs hrr (by simp [AvRL]) g3
        obtain ⟨cs0, ty0, k1, k2, k3⟩ := r1.box b cells' hl'
        rw [List.nil_append] at r2
        have e0 : cs0 = cs := by
          rw [g1] at k1
          simp only [Option.some.injEq, Obj.cells.injEq] at k1
          have := k1.1
          simpa using this.symm
        subst e0
        have hrel := RelC_setB r1 hl' k1 (i := 0) (by omega) k3 r2
        rw [lay_all rfl, lay_all hlen.symm, setRow_self w _ _ _ _ k1] at hrel
        exact h lo w0 a w ⟨ow1, hd1, bk, hrel⟩
      · exact h
attribute [push_cast] St.settleBA
end Go.Proofs.Ytdbecmmeifdafaa

namespace Go.Proofs.Ytdbecmmeifdafaa
open Nat renaming reduceMod → zA, reduceMul → zB, reduceDiv → zC, reduceAdd → zD, reduceSub → zE, reduceEqDiff → zF, reduceBEq → zG, reduceLT → zH, reduceLeDiff → zI
open Go.RowKit
set_option linter.unusedVariables false
set_option linter.unusedSimpArgs false

def scaleG (f : Fr) (c : Int) : Int := c * f.den - f.num
def scaleW (w : Wt) (f : Fr) : Wt := ⟨w.a, w.cost.map (List.map (scaleG f))⟩
theorem scaleG_le {f : Fr} {c : Int} (h1 : -1000 ≤ c ∧ c ≤ 1000) (h2 : -8000 ≤ f.num ∧ f.num ≤ 8000) (h3 : 1 ≤ f.den ∧ f.den ≤ 8) : (-8000 ≤ c * f.den ∧ c * f.den ≤ 8000) ∧ -20000 ≤ scaleG f c ∧ scaleG f c ≤ 20000 := by
  have a1 : c * f.den ≤ 8000 := by
    have : c * f.den ≤ 1000 * f.den := Int.mul_le_mul_of_nonneg_right h1.2 (by omega)
    omega
  have a2 : -8000 ≤ c * f.den := by
    have : -1000 * f.den ≤ c * f.den := Int.mul_le_mul_of_nonneg_right h1.1 (by omega)
    omega
  unfold scaleG
  omega
theorem gl_map {g : List Int → List Int} {xs : List (List Int)} {v : Nat} (h : v < xs.length) : gl (xs.map g) v = g (gl xs v) := by
  unfold gl
  rw [List.getD_eq_getElem?_getD, List.getElem?_map, List.getD_eq_getElem?_getD, List.getElem?_eq_getElem h]
  rfl
theorem scaleW_ok {w : Wt} (h : weightedB w = true) {f : Fr} (h2 : -8000 ≤ f.num ∧ f.num ≤ 8000) (h3 : 1 ≤ f.den ∧ f.den ≤ 8) : WSh (scaleW w f) := by
  obtain ⟨k1, k2, k3, k4, k5, k6⟩ := weighted_facts h
  have hs := wsh_of h
  have hg : ∀ v, v < w.a.owner.length → gl (w.cost.map (List.map (scaleG f))) v = (gl w.cost v).map (scaleG f) := fun v hv => gl_map (by omega)
  refine ⟨k1, k2, k3, k4, by show (w.cost.map _).length = _; rw [List.length_map]; exact k5, fun v hv => ?_, fun v hv j hj => ?_, hs.to, hs.own⟩
  · show (gl (w.cost.map (List.map (scaleG f))) v).length = _ ∧ _
    rw [hg v hv, List.length_map]
    exact hs.row v hv
  · show -20000 ≤ gi (gl (w.cost.map (List.map (scaleG f))) v) j ∧ gi (gl (w.cost.map (List.map (scaleG f))) v) j ≤ 20000
    have hj' : j < (gl w.cost v).length := by rw [(k6 v hv).1]; exact hj
    rw [hg v hv, gi_map hj']
    exact (scaleG_le ((k6 v hv).2.2.2 j hj') h2 h3).2
theorem scaleW_len {w : Wt} {f : Fr} (h : w.Ln 1048576) : (scaleW w f).Ln 1048576 := ⟨h.a, LnII_map h.cost⟩
set_option maxRecDepth 20000 in
set_option maxHeartbeats 4000000 in
theorem scaledBy_fn (w : Wt) (ha : w.Ln 1048576) (f : Fr) (hw : weightedB w = true) (hf2 : -8000 ≤ f.num ∧ f.num ≤ 8000) (hf3 : 1 ≤ f.den ∧ f.den ≤ 8) : FnS Try.prog tyT 75 [.agg (dWt w), .agg (dFr f)] 2 [DII (w.cost.map (List.map (scaleG f)))] := by
  have h0 := ha.a.owner
  have h1 := ha.a.next.1
  have h2 := ha.cost.1
  unfold LnI at h0
  have hcr : ∀ v, (gl w.cost v).length ≤ 1048576 := fun v => gl_le ha.cost v
  obtain ⟨hok, hn1, hn2, hn3, hn4, hrow⟩ := weighted_facts hw
  have hC := copyLists_fn w.cost ha.cost
  unfold dFr
  unfold dWt
  refine FnS_of (fn := Try.f75) (rs := [.cell 4 32]) tyOk tyPos Try.func75 (by kernel_rfl) rfl rfl (by rw [Try.ntmps75]; exact Nat.le_of_ble_eq_true rfl) rfl (by simp only [szA, List.mem_cons, List.not_mem_nil, or_false, forall_eq_or_imp, forall_eq, VT.cells, szL]; try decide) (Nat.le_of_ble_eq_true rfl) ?_
  rw [Try.ntmps75]
  simp only [push_cast, ↓brB_true, ↓brB_false, ↓reduceIte, zA, zB, zC, zD, zE, zF, zG, zH, zI, reduceCtorEq]
  refine awp_seq' fun K hK => ?_
  refine awp_region tyOk tyPos [] rfl ?_
  all_goals simp only [push_cast, ↓brB_true, ↓brB_false, ↓reduceIte, zA, zB, zC, zD, zE, zF, zG, zH, zI, reduceCtorEq]
  all_goals repeat' (first | (apply brB_mk <;> (intro hg; (try simp only [push_cast] at hg))) | apply And.intro | (intro hg; (try simp only [push_cast] at hg)))
  all_goals first | exact gA | (exact getE_dII (by omega)) | (have h8 := hvi (by omega); have := hcst (by omega); rw [h8]; unfold scaleG at this; omega) | skip
  all_goals first | (refine hK _ ?_; clear hK K) | (simp only [push_cast]; done)
  refine awp_seq' fun K hK => ?_
  refine awp_regionD1 false tyOk tyPos tyMix ?_ rfl ?_
  · kernel_rfl
  intro E hE
  all_goals refine lexF_cut 5 (by decide) fun K9 hK9 => ?_
  all_goals simp only [push_cast, ↓brB_true, ↓brB_false, ↓reduceIte, zA, zB, zC, zD, zE, zF, zG, zH, zI, reduceCtorEq]
  all_goals repeat' (first | (apply brB_mk <;> (intro hg; (try simp only [push_cast] at hg))) | (refine ⟨_, hC, ?_⟩; simp only [push_cast, ↓brB_true, ↓brB_false, ↓reduceIte, zA, zB, zC, zD, zE, zF, zG, zH, zI, reduceCtorEq]) | apply And.intro | (intro hg; (try simp only [push_cast] at hg)))
  all_goals first | exact gA | (exact getE_dII (by omega)) | (have h8 := hvi (by omega); have := hcst (by omega); rw [h8]; unfold scaleG at this; omega) | skip
  all_goals first | (refine hK9 _ _ ?_; clear hK9 K9) | (simp only [push_cast]; done)
  all_goals simp only [push_cast, ↓brB_true, ↓brB_false, ↓reduceIte, zA, zB, zC, zD, zE, zF, zG, zH, zI, reduceCtorEq]
  all_goals repeat' (first | (apply brB_mk <;> (intro hg; (try simp only [push_cast] at hg))) | (refine ⟨_, hC, ?_⟩; simp only [push_cast, ↓brB_true, ↓brB_false, ↓reduceIte, zA, zB, zC, zD, zE, zF, zG, zH, zI, reduceCtorEq]) | apply And.intro | (intro hg; (try simp only [push_cast] at hg)))
  all_goals first | exact gA | (refine hE _ _ ?_ ?_; kernel_rfl) | (exact getE_dII (by omega)) | (have h8 := hvi (by omega); have := hcst (by omega); rw [h8]; unfold scaleG at this; omega) | skip
  all_goals clear hE E
  all_goals first | (refine hK _ ?_; clear hK K) | (simp only [push_cast]; done)
  refine awp_seq' fun K1 hK1 => ?_
  refine awp_settleBA [80, 81] [.sl 2, .sl 27, .sl 27] 5 ?_
  simp only [push_cast, ↓brB_true, ↓brB_false, ↓reduceIte, zA, zB, zC, zD, zE, zF, zG, zH, zI, reduceCtorEq]
  refine awp_seq' fun K hK => ?_
  refine awp_region tyOk tyPos [] rfl ?_
  all_goals simp only [push_cast, ↓brB_true, ↓brB_false, ↓reduceIte, zA, zB, zC, zD, zE, zF, zG, zH, zI, reduceCtorEq]
  all_goals repeat' (first | (apply brB_mk <;> (intro hg; (try simp only [push_cast] at hg))) | apply And.intro | (intro hg; (try simp only [push_cast] at hg)))
  all_goals first | exact gA | (exact getE_dII (by omega)) | (have h8 := hvi (by omega); have := hcst (by omega); rw [h8]; unfold scaleG at this; omega) | skip
  all_goals first | (refine hK _ ?_; clear hK K) | (simp only [push_cast]; done)
  refine awp_block ?_
  refine awp_loopU [5,7,8,18,19,20,21,22,23,24,25,26,27,28,29,30,31,32,33,34,35,36,37,38,39,40,41] [82] (fun (v : Nat) => [(18, .int .i64 v), (5, .bp 5 0)]) (fun v => [(5, [.sl 0 [] 0 w.a.owner.length 2, .sl 1 [] 0 w.a.next.length 27, .sl 82 [] 0 w.cost.length 27])]) (fun v => [(82, ⟨.ex, 27, dII (mapR (scaleG f) w.cost v), none⟩)]) (fun v => v ≤ w.cost.length) (fun v => w.cost.length - v) 0 ?_ (by omega) ?_
  ·
    rw [mapR_0]
    refine cov_of rfl ?_ ?_ ?_ <;> simp only [covS, covL, push_cast, ↓brB_true, ↓brB_false, ↓reduceIte, zA, zB, zC, zD, zE, zF, zG, zH, zI, reduceCtorEq]
  · rintro v hv KL0 hL0
    have hml := mapR_len (g := (scaleG f)) hv
    have hmg : v < w.cost.length → gl (mapR (scaleG f) w.cost v) v = gl w.cost v := fun h => mapR_gl h
    have hrv := hcr v
    have hmgl : v < w.cost.length → (gl (mapR (scaleG f) w.cost v) v).length = (gl w.cost v).length := fun h => by rw [hmg h]
    simp only [push_cast, ↓brB_true, ↓brB_false, ↓reduceIte, zA, zB, zC, zD, zE, zF, zG, zH, zI, reduceCtorEq]
    refine awp_seq' fun K hK => ?_
    refine awp_region tyOk tyPos [] rfl ?_
    all_goals simp only [push_cast, ↓brB_true, ↓brB_false, ↓reduceIte, zA, zB, zC, zD, zE, zF, zG, zH, zI, reduceCtorEq]
    all_goals repeat' (first | (apply brB_mk <;> (intro hg; (try simp only [push_cast] at hg))) | apply And.intro | (intro hg; (try simp only [push_cast] at hg)))
    all_goals first | exact gA | (exact getE_dII (by omega)) | (have h8 := hvi (by omega); have := hcst (by omega); rw [h8]; unfold scaleG at this; omega) | skip
    all_goals first | (refine hK _ ?_; clear hK K) | (simp only [push_cast]; done)
    refine awp_seq' fun K2 hK2 => ?_
    refine awp_cond rfl (fun hc => ?_) (fun hc => ?_) <;> (try simp only [push_cast] at hc)
    ·
      refine awp_skip ?_
      (try simp only [AThen, ABlk, reduceIte, zF]); refine hK2 _ ?_
      refine awp_seq' fun K3 hK3 => ?_
      refine awp_block ?_
      refine awp_seq' fun K hK => ?_
      refine awp_region tyOk tyPos [] rfl ?_
      all_goals simp only [push_cast, ↓brB_true, ↓brB_false, ↓reduceIte, zA, zB, zC, zD, zE, zF, zG, zH, zI, reduceCtorEq]
      all_goals repeat' (first | (apply brB_mk <;> (intro hg; (try simp only [push_cast] at hg))) | apply And.intro | (intro hg; (try simp only [push_cast] at hg)))
      all_goals first | exact gA | (exact getE_dII (by omega)) | (have h8 := hvi (by omega); have := hcst (by omega); rw [h8]; unfold scaleG at this; omega) | skip
      all_goals first | (refine hK _ ?_; clear hK K) | (simp only [push_cast]; done)
      refine awp_seq' fun K hK => ?_
      refine awp_region tyOk tyPos [] rfl ?_
      all_goals simp only [push_cast, ↓brB_true, ↓brB_false, ↓reduceIte, zA, zB, zC, zD, zE, zF, zG, zH, zI, reduceCtorEq]
      all_goals repeat' (first | (apply brB_mk <;> (intro hg; (try simp only [push_cast] at hg))) | apply And.intro | (intro hg; (try simp only [push_cast] at hg)))
      all_goals first | exact gA | (exact getE_dII (by omega)) | (have h8 := hvi (by omega); have := hcst (by omega); rw [h8]; unfold scaleG at this; omega) | skip
      all_goals first | (refine hK _ ?_; clear hK K) | (simp only [push_cast]; done)
      refine awp_block ?_
      refine awp_loopU [5,8,24,25,26,27,28,29,30,31,32,33,34,35,36,37,38,39,40] [82] (fun (k : Nat) => [(24, .int .i64 k), (5, .bp 5 0)]) (fun k => [(5, [.sl 0 [] 0 w.a.owner.length 2, .sl 1 [] 0 w.a.next.length 27, .sl 82 [] 0 w.cost.length 27])]) (fun k => [(82, ⟨.ex, 27, dII (mapV (scaleG f) w.cost v k), none⟩)]) (fun k => k ≤ (gl w.cost v).length) (fun k => (gl w.cost v).length - k) 0 ?_ (by omega) ?_
      ·
        rw [mapV_0 (by omega)]
        refine cov_of rfl ?_ ?_ ?_ <;> simp only [covS, covL, push_cast, ↓brB_true, ↓brB_false, ↓reduceIte, zA, zB, zC, zD, zE, zF, zG, zH, zI, reduceCtorEq]
      · rintro k hk KL1 hL1
        have hvl : (mapV (scaleG f) w.cost v k).length = w.cost.length := mapV_len (by omega)
        have hvg : gl (mapV (scaleG f) w.cost v k) v = mapI (scaleG f) (gl w.cost v) k := mapV_gl (by omega)
        have hil := mapI_len (g := (scaleG f)) hk
        have hvl2 : (gl (mapV (scaleG f) w.cost v k) v).length = (gl w.cost v).length := by rw [hvg, hil]
        have hvi : k < (gl w.cost v).length → gi (gl (mapV (scaleG f) w.cost v k) v) k = gi (gl w.cost v) k := fun h => by rw [hvg]; exact mapI_gi h
        have hig : k < (gl w.cost v).length → gi (mapI (scaleG f) (gl w.cost v) k) k = gi (gl w.cost v) k := fun h => mapI_gi h
        have hcst : k < (gl w.cost v).length → _ := fun h => scaleG_le (f := f) ((hrow v (by omega)).2.2.2 k h) hf2 hf3
        simp only [push_cast, ↓brB_true, ↓brB_false, ↓reduceIte, zA, zB, zC, zD, zE, zF, zG, zH, zI, reduceCtorEq]
        refine awp_seq' fun K hK => ?_
        refine awp_region tyOk tyPos [] rfl ?_
        all_goals simp only [push_cast, ↓brB_true, ↓brB_false, ↓reduceIte, zA, zB, zC, zD, zE, zF, zG, zH, zI, reduceCtorEq]
        all_goals repeat' (first | (apply brB_mk <;> (intro hg; (try simp only [push_cast] at hg))) | apply And.intro | (intro hg; (try simp only [push_cast] at hg)))
        all_goals first | exact gA | (exact getE_dII (by omega)) | (have h8 := hvi (by omega); have := hcst (by omega); rw [h8]; unfold scaleG at this; omega) | skip
        all_goals first | (refine hK _ ?_; clear hK K) | (simp only [push_cast]; done)
        refine awp_seq' fun K4 hK4 => ?_
        refine awp_cond rfl (fun hc => ?_) (fun hc => ?_) <;> (try simp only [push_cast] at hc)
        ·
          refine awp_skip ?_
          (try simp only [AThen, ABlk, reduceIte, zF]); refine hK4 _ ?_
          refine awp_seq' fun K5 hK5 => ?_
          refine awp_block ?_
          refine awp_seq' fun K hK => ?_
          refine awp_region tyOk tyPos [] rfl ?_
          all_goals simp only [push_cast, ↓brB_true, ↓brB_false, ↓reduceIte, zA, zB, zC, zD, zE, zF, zG, zH, zI, reduceCtorEq]
          all_goals repeat' (first | (apply brB_mk <;> (intro hg; (try simp only [push_cast] at hg))) | apply And.intro | (intro hg; (try simp only [push_cast] at hg)))
          all_goals first | exact gA | (exact getE_dII (by omega)) | (have h8 := hvi (by omega); have := hcst (by omega); rw [h8]; unfold scaleG at this; omega) | skip
          all_goals first | (refine hK _ ?_; clear hK K) | (simp only [push_cast]; done)
          refine awp_regionD1 false tyOk tyPos tyMix ?_ rfl ?_
          · kernel_rfl
          intro E hE
          all_goals simp only [push_cast, ↓brB_true, ↓brB_false, ↓reduceIte, zA, zB, zC, zD, zE, zF, zG, zH, zI, reduceCtorEq]
          all_goals repeat' (first | (apply brB_mk <;> (intro hg; (try simp only [push_cast] at hg))) | apply And.intro | (intro hg; (try simp only [push_cast] at hg)))
          all_goals first | exact gA | (refine hE _ _ ?_ ?_; kernel_rfl) | (exact getE_dII (by omega)) | (have h8 := hvi (by omega); have := hcst (by omega); rw [h8]; unfold scaleG at this; omega) | skip
          all_goals clear hE E
          (try simp only [AThen, ABlk, reduceIte, zF]); refine hK5 _ ?_
          refine awp_region tyOk tyPos [] rfl ?_
          all_goals simp only [push_cast, ↓brB_true, ↓brB_false, ↓reduceIte, zA, zB, zC, zD, zE, zF, zG, zH, zI, reduceCtorEq]
          all_goals repeat' (first | (apply brB_mk <;> (intro hg; (try simp only [push_cast] at hg))) | apply And.intro | (intro hg; (try simp only [push_cast] at hg)))
          all_goals first | exact gA | (exact getE_dII (by omega)) | (have h8 := hvi (by omega); have := hcst (by omega); rw [h8]; unfold scaleG at this; omega) | skip
          have e9 : gi (gl (mapV (scaleG f) w.cost v k) v) k = gi (gl w.cost v) k := hvi (by omega)
          rw [setAt_dII _ _ _ _ (by omega)]
          rw [e9, show gi (gl w.cost v) k * f.den - f.num = scaleG f (gi (gl w.cost v) k) from rfl, mapV_set (by omega) (by omega)]
          refine hL1 _ ⟨k + 1, by omega, by omega, ?_⟩
          refine cov_of rfl ?_ ?_ ?_ <;> simp only [covS, covL, push_cast, ↓brB_true, ↓brB_false, ↓reduceIte, zA, zB, zC, zD, zE, zF, zG, zH, zI, reduceCtorEq]
        ·
          refine awp_exit ?_
          have hkk : k = (gl w.cost v).length := by omega
          subst hkk
          (try simp only [AThen, ABlk, reduceIte, zF]); refine hK3 _ ?_
          refine awp_region tyOk tyPos [] rfl ?_
          all_goals simp only [push_cast, ↓brB_true, ↓brB_false, ↓reduceIte, zA, zB, zC, zD, zE, zF, zG, zH, zI, reduceCtorEq]
          all_goals repeat' (first | (apply brB_mk <;> (intro hg; (try simp only [push_cast] at hg))) | apply And.intro | (intro hg; (try simp only [push_cast] at hg)))
          all_goals first | exact gA | (exact getE_dII (by omega)) | (have h8 := hvi (by omega); have := hcst (by omega); rw [h8]; unfold scaleG at this; omega) | skip
          refine hL0 _ ⟨v + 1, by omega, by omega, ?_⟩
          rw [mapV_all (by omega)]
          refine cov_of rfl ?_ ?_ ?_ <;> simp only [covS, covL, push_cast, ↓brB_true, ↓brB_false, ↓reduceIte, zA, zB, zC, zD, zE, zF, zG, zH, zI, reduceCtorEq]
    ·
      refine awp_exit ?_
      have hkv : v = w.cost.length := by omega
      subst hkv
      rw [mapR_all]
      (try simp only [AThen, ABlk, reduceIte, zF]); refine hK1 _ ?_
      refine awp_seq' fun K hK => ?_
      refine awp_region tyOk tyPos [64, 65] rfl ?_
      simp only [push_cast, ↓brB_true, ↓brB_false, ↓reduceIte, zA, zB, zC, zD, zE, zF, zG, zH, zI, reduceCtorEq]
      repeat' apply And.intro
      all_goals try exact gB
      all_goals first | (refine hK _ ?_; clear hK K) | (simp only [push_cast]; done)
      refine awp_ret ?_
      (try simp only [AThen, ABlk])
      refine ⟨Or.inl rfl, ?_⟩
      simp only [RetS, resVars, resVar, shOk, push_cast, ↓brB_true, ↓brB_false, ↓reduceIte, zA, zB, zC, zD, zE, zF, zG, zH, zI, reduceCtorEq]
      all_goals first | rfl | (simp; done)
end Go.Proofs.Ytdbecmmeifdafaa

namespace Go.Proofs.Ytdbecmmeifdafaa
open Go.RowKit MV
set_option linter.unusedVariables false
set_option linter.unusedSimpArgs false

theorem scale_to (w : Wt) (f : Fr) (v j : Nat) : (gmW (scaleW w f)).to v j = (gmW w).to v j := rfl
theorem scale_c {w : Wt} (hw : WSh w) (f : Fr) {v j : Nat} (hv : v < w.a.owner.length) (hj : j < (gmW w).deg v) : (gmW (scaleW w f)).c v j = (gmW w).c v j * f.den - f.num := by
  have h1 := (hw.row v hv).1
  have hj' : j < (gl w.cost v).length := by rw [h1]; exact hj
  show gi (gl (w.cost.map (List.map (scaleG f))) v) j = gi (gl w.cost v) j * f.den - f.num
  have e1 : gl (w.cost.map (List.map (scaleG f))) v = (gl w.cost v).map (scaleG f) := by
    unfold gl
    rw [List.getD_eq_getElem?_getD, List.getD_eq_getElem?_getD, List.getElem?_map]
    cases w.cost[v]? <;> rfl
  rw [e1]
  unfold gi
  rw [List.getD_eq_getElem?_getD, List.getD_eq_getElem?_getD, List.getElem?_map, List.getElem?_eq_getElem hj']
  rfl
theorem scale_pay {w : Wt} (hw : WSh w) (f : Fr) (hf : 0 ≤ f.den) : ∀ k v, v < w.a.owner.length → (gmW (scaleW w f)).pay k v = (gmW w).pay k v * f.den - k * f.num
  | 0, v, hv => by show (0 : Int) = 0 * f.den - ((0 : Nat) : Int) * f.num; simp
  | k + 1, v, hv => by
    have hg := gm_ok20 hw
    have hd := hg.deg v hv
    have hd' : 1 ≤ (gmW (scaleW w f)).deg v := hd
    have ih := scale_pay hw f hf k
    have hk : ((k + 1 : Nat) : Int) * f.num = k * f.num + f.num := by rw [show ((k + 1 : Nat) : Int) = (k : Int) + 1 by omega, Int.add_mul, Int.one_mul]
    have he : ∀ j, j < (gmW w).deg v → (gmW (scaleW w f)).c v j + (gmW (scaleW w f)).pay k ((gmW (scaleW w f)).to v j) = ((gmW w).c v j + (gmW w).pay k ((gmW w).to v j)) * f.den - ((k + 1 : Nat) : Int) * f.num := fun j hj => by
      rw [scale_c hw f hv hj, scale_to, ih _ (hg.to v hv j hj), hk, Int.add_mul]
      omega
    cases h : (gmW w).mx v
    · have h' : (gmW (scaleW w f)).mx v = false := h
      obtain ⟨⟨i, hi, e1⟩, a1⟩ := Gm.pay_n h hd k
      obtain ⟨⟨i', hi', e2⟩, a2⟩ := Gm.pay_n h' hd' k
      have b1 := a2 i hi
      rw [he i hi, ← e1] at b1
      rw [he i' hi'] at e2
      have b2 := Int.mul_le_mul_of_nonneg_right (a1 i' hi') hf
      omega
    · have h' : (gmW (scaleW w f)).mx v = true := h
      obtain ⟨⟨i, hi, e1⟩, a1⟩ := Gm.pay_x h hd k
      obtain ⟨⟨i', hi', e2⟩, a2⟩ := Gm.pay_x h' hd' k
      have b1 := a2 i hi
      rw [he i hi, ← e1] at b1
      rw [he i' hi'] at e2
      have b2 := Int.mul_le_mul_of_nonneg_right (a1 i' hi') hf
      omega
theorem frOf_cross {p q : Int} (hq : 1 ≤ q) : ∃ g : Int, 1 ≤ g ∧ p = (frOf p q).num * g ∧ q = (frOf p q).den * g := by
  refine ⟨Int.gcd p q, by have := gcd_pos' p hq; omega, ?_, ?_⟩
  · show p = p.tdiv (Int.gcd p q) * (Int.gcd p q)
    exact (Int.tdiv_mul_cancel (Int.gcd_dvd_left ..)).symm
  · show q = q.tdiv (Int.gcd p q) * (Int.gcd p q)
    exact (Int.tdiv_mul_cancel (Int.gcd_dvd_right ..)).symm
theorem val_iff {w : Wt} (hw : WMn w) (f : Fr) (hf : 1 ≤ f.den) {v : Nat} (hv : v < w.a.owner.length) : lessF (valF w v) f = false ↔ ∃ M, ∀ k, -M ≤ (gmW (scaleW w f)).pay k v := by
  have hg := gm_ok20 hw.sh
  have hok := Gm.val_ok hg hv
  have hge := fun k => Gm.val_ge hg (by decide) hv k
  have hle := fun k => Gm.val_le hg (by decide) hv k
  have hpy := fun k => scale_pay hw.sh f (by omega) k v hv
  obtain ⟨g, g1, gN, gD⟩ := frOf_cross (p := ((gmW w).val w.a.owner.length v).1) (q := ((gmW w).val w.a.owner.length v).2) hok.1
  have hD1 := hok.1
  have hC0 : 0 ≤ 2 * (((w.a.owner.length : Int) - 1) * (((gmW w).val w.a.owner.length v).2 * 20000)) := Int.mul_nonneg (by decide) (Int.mul_nonneg (by omega) (Int.mul_nonneg (by omega) (by decide)))
  generalize 2 * (((w.a.owner.length : Int) - 1) * (((gmW w).val w.a.owner.length v).2 * 20000)) = C at hge hle hC0
  have hvf : valF w v = frOf ((gmW w).val w.a.owner.length v).1 ((gmW w).val w.a.owner.length v).2 := rfl
  rw [← hvf] at gN gD
  generalize ((gmW w).val w.a.owner.length v).1 = N at *
  generalize ((gmW w).val w.a.owner.length v).2 = D at *
  have hcross : lessF (valF w v) f = false ↔ f.num * D ≤ N * f.den := by
    unfold lessF
    rw [decide_eq_false_iff_not, Int.not_lt]
    have e1 : f.num * D = f.num * (valF w v).den * g := by rw [gD, Int.mul_assoc]
    have e2 : N * f.den = (valF w v).num * f.den * g := by rw [gN, Int.mul_assoc, Int.mul_comm g, ← Int.mul_assoc]
    rw [e1, e2]
    exact ⟨fun h => Int.mul_le_mul_of_nonneg_right h (by omega), fun h => Int.le_of_mul_le_mul_right h (by omega)⟩
  rw [hcross]
  have hkey : ∀ k : Nat, D * ((gmW (scaleW w f)).pay k v) = (D * (gmW w).pay k v) * f.den - k * (f.num * D) := fun k => by
    rw [hpy k, Int.mul_sub, Int.mul_assoc D, Int.mul_comm f.num D, ← Int.mul_assoc (k : Int) D, Int.mul_comm (k : Int) D, Int.mul_assoc D]
  constructor
  · intro h
    refine ⟨C * f.den, fun k => ?_⟩
    have h1 := Int.mul_le_mul_of_nonneg_right (hge k) (show 0 ≤ f.den by omega)
    have h2 := hkey k
    have h3 : (k : Int) * (f.num * D) ≤ k * (N * f.den) := Int.mul_le_mul_of_nonneg_left h (by omega)
    rw [Int.sub_mul, Int.mul_assoc (k : Int)] at h1
    have h4 : -(C * f.den) ≤ D * ((gmW (scaleW w f)).pay k v) := by omega
    rcases Int.lt_or_le ((gmW (scaleW w f)).pay k v) (-(C * f.den)) with h5 | h5
    · exfalso
      have h6 : 0 ≤ C * f.den := Int.mul_nonneg hC0 (by omega)
      have h7 : D * ((gmW (scaleW w f)).pay k v) ≤ 1 * ((gmW (scaleW w f)).pay k v) := Int.mul_le_mul_of_nonpos_right hD1 (by omega)
      omega
    · exact h5
  · rintro ⟨M, hM⟩
    rcases Int.lt_or_le (N * f.den) (f.num * D) with h | h
    · exfalso
      have hk := hkey (C * f.den + D * M + 1).toNat
      have hl := Int.mul_le_mul_of_nonneg_right (hle (C * f.den + D * M + 1).toNat) (show 0 ≤ f.den by omega)
      have hm := Int.mul_le_mul_of_nonneg_left (hM (C * f.den + D * M + 1).toNat) (show 0 ≤ D by omega)
      rw [Int.add_mul, Int.mul_assoc (((C * f.den + D * M + 1).toNat : Nat) : Int)] at hl
      have h3 : ((C * f.den + D * M + 1).toNat : Int) * (N * f.den) ≤ ((C * f.den + D * M + 1).toNat : Int) * (f.num * D - 1) := Int.mul_le_mul_of_nonneg_left (by omega) (by omega)
      rw [Int.mul_sub, Int.mul_one] at h3
      rw [Int.mul_neg] at hm
      omega
    · exact h
end Go.Proofs.Ytdbecmmeifdafaa

namespace Go.Proofs.Ytdbecmmeifdafaa
open Go.RowKit
set_option linter.unusedVariables false
set_option linter.unusedSimpArgs false

structure FewerW (x w : Wt) : Prop where
  own : x.a.owner = w.a.owner
  w0 : ∀ v, v < w.a.owner.length → gi w.a.owner v = 0 → ∀ i, i < (gl x.a.next v).length → ∃ j, j < (gl w.a.next v).length ∧ toE x v i = toE w v j ∧ coE x v i = coE w v j
  w1 : ∀ v, v < w.a.owner.length → gi w.a.owner v = 1 → ∀ j, j < (gl w.a.next v).length → ∃ i, i < (gl x.a.next v).length ∧ toE x v i = toE w v j ∧ coE x v i = coE w v j
end Go.Proofs.Ytdbecmmeifdafaa
