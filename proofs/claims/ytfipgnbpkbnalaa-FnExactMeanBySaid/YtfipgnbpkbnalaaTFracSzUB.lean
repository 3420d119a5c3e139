/- the laws' helpers of lists of fractions -/
import Derived.Test.YtfipgnbpkbnalaaTFraczUB
import Derived.Test.YtfipgnbpkbnalaaGDzUB
namespace Go.Proofs.Ytfipgnbpkbnalaa
open Nat (reduceMod reduceMul reduceDiv reduceAdd reduceSub reduceEqDiff reduceLT reduceLeDiff)
open Go.RowKit
set_option linter.unusedVariables false
set_option linter.unusedSimpArgs false

@[reducible] def dFrs (fs : List Fr) : List D := fs.flatMap dFr
theorem m2d (n : Nat) : n * 2 / 2 = n := by omega
theorem len_dFrs (fs : List Fr) : (dFrs fs).length = fs.length * 2 := by
  induction fs with
  | nil => rfl
  | cons x fs ih => simp only [dFrs, List.flatMap_cons, List.length_append, List.length_cons] at *; rw [ih]; simp only [dFr, List.length_cons, List.length_nil]; omega
theorem app_dFrs (fs : List Fr) (x y : Int) : dFrs fs ++ [D.int .i64 x, D.int .i64 y] = dFrs (fs ++ [⟨x, y⟩]) := by simp [dFrs, dFr]
theorem take_dFrs (fs : List Fr) (n : Nat) : (dFrs fs).take (n * 2) = dFrs (fs.take n) := by
  induction fs generalizing n with
  | nil => simp [dFrs]
  | cons x fs ih =>
    cases n with
    | zero => simp [dFrs]
    | succ n =>
      have := ih n
      simp only [dFrs, List.flatMap_cons, List.take_succ_cons] at *
      rw [show (n + 1) * 2 = n * 2 + 1 + 1 from by omega]
      simp only [dFr, List.cons_append, List.nil_append, List.take_succ_cons]
      rw [this]
attribute [push_cast] m2d len_dFrs app_dFrs take_dFrs
def gf (fs : List Fr) (k : Nat) : Fr := fs.getD k ⟨0, 0⟩
theorem dFrs_at0 (fs : List Fr) (k : Nat) : (dFrs fs)[k * 2]? = if k < fs.length then some (.int .i64 (gf fs k).num) else none := by
  induction fs generalizing k with
  | nil => rfl
  | cons x fs ih =>
    cases k with
    | zero => rfl
    | succ k =>
      rw [show (k + 1) * 2 = k * 2 + 1 + 1 from by omega]
      simp only [dFrs, List.flatMap_cons, dFr, List.cons_append, List.nil_append, List.getElem?_cons_succ, List.length_cons]
      have := ih k
      simp only [dFrs] at this
      rw [this]
      simp only [gf, List.getD_cons_succ]
      split <;> split <;> first | rfl | omega
theorem dFrs_at1 (fs : List Fr) (k : Nat) : (dFrs fs)[k * 2 + 1]? = if k < fs.length then some (.int .i64 (gf fs k).den) else none := by
  induction fs generalizing k with
  | nil => rfl
  | cons x fs ih =>
    cases k with
    | zero => rfl
    | succ k =>
      rw [show (k + 1) * 2 + 1 = k * 2 + 1 + 1 + 1 from by omega]
      simp only [dFrs, List.flatMap_cons, dFr, List.cons_append, List.nil_append, List.getElem?_cons_succ, List.length_cons]
      have := ih k
      simp only [dFrs] at this
      rw [this]
      simp only [gf, List.getD_cons_succ]
      split <;> split <;> first | rfl | omega
theorem getI_dFrs0 (fs : List Fr) (k : Nat) : getI (dFrs fs) (k * 2) = (gf fs k).num := by
  unfold getI
  rw [dFrs_at0]
  split
  · rename_i h; split at h <;> cases h; rfl
  · rename_i h
    split at h
    · rename_i h2; exact absurd rfl (h _ _)
    · rename_i h2; unfold gf; rw [List.getD_eq_getElem?_getD, List.getElem?_eq_none (by omega)]; rfl
theorem getI_dFrs1 (fs : List Fr) (k : Nat) : getI (dFrs fs) (k * 2 + 1) = (gf fs k).den := by
  unfold getI
  rw [dFrs_at1]
  split
  · rename_i h; split at h <;> cases h; rfl
  · rename_i h
    split at h
    · rename_i h2; exact absurd rfl (h _ _)
    · rename_i h2; unfold gf; rw [List.getD_eq_getElem?_getD, List.getElem?_eq_none (by omega)]; rfl
theorem HasC_dFrs0 (fs : List Fr) (k : Nat) : HasC (.int .i64) (dFrs fs) (k * 2) = (k < fs.length) := by
  unfold HasC
  rw [dFrs_at0]
  apply propext
  constructor
  · rintro ⟨n, h⟩; split at h; assumption; cases h
  · intro h; rw [if_pos h]; exact ⟨_, rfl⟩
theorem HasC_dFrs1 (fs : List Fr) (k : Nat) : HasC (.int .i64) (dFrs fs) (k * 2 + 1) = (k < fs.length) := by
  unfold HasC
  rw [dFrs_at1]
  apply propext
  constructor
  · rintro ⟨n, h⟩; split at h; assumption; cases h
  · intro h; rw [if_pos h]; exact ⟨_, rfl⟩
attribute [push_cast] getI_dFrs0 getI_dFrs1 HasC_dFrs0 HasC_dFrs1
theorem set_dFrs0 (fs : List Fr) (k : Nat) (n : Int) : (dFrs fs).set (k * 2) (.int .i64 n) = dFrs (fs.set k ⟨n, (gf fs k).den⟩) := by
  induction fs generalizing k with
  | nil => simp [dFrs]
  | cons x fs ih =>
    cases k with
    | zero => simp [dFrs, dFr, gf]
    | succ k =>
      have := ih k
      rw [show (k + 1) * 2 = k * 2 + 1 + 1 from by omega]
      simp only [dFrs, List.flatMap_cons, dFr, List.cons_append, List.nil_append, List.set_cons_succ] at *
      rw [this]
      simp only [gf, List.getD_cons_succ]
theorem set_dFrs1 (fs : List Fr) (k : Nat) (n : Int) : (dFrs fs).set (k * 2 + 1) (.int .i64 n) = dFrs (fs.set k ⟨(gf fs k).num, n⟩) := by
  induction fs generalizing k with
  | nil => simp [dFrs]
  | cons x fs ih =>
    cases k with
    | zero => simp [dFrs, dFr, gf]
    | succ k =>
      have := ih k
      rw [show (k + 1) * 2 + 1 = k * 2 + 1 + 1 + 1 from by omega]
      simp only [dFrs, List.flatMap_cons, dFr, List.cons_append, List.nil_append, List.set_cons_succ] at *
      rw [this]
      simp only [gf, List.getD_cons_succ]
attribute [push_cast] set_dFrs0 set_dFrs1
theorem gf_set {fs : List Fr} {j : Nat} {x : Fr} (h : j < fs.length) : gf (fs.set j x) j = x := by
  unfold gf
  rw [List.getD_eq_getElem?_getD, List.getElem?_set_self h]
  rfl
def iotF (k : Int) (n : Nat) : List Fr := (List.range n).map fun (i : Nat) => (⟨k + 2 * (i : Int), k + 2 * (i : Int) + 1⟩ : Fr)
def mkFs (k : Int) (fs : List Fr) (j : Nat) : List Fr := iotF k j ++ fs.drop j
theorem iotF_len (k : Int) (n : Nat) : (iotF k n).length = n := by simp [iotF]
theorem mkFs_0 (k : Int) (fs : List Fr) : mkFs k fs 0 = fs := by simp [mkFs, iotF]
theorem mkFs_len {k : Int} {fs : List Fr} {j : Nat} (h : j ≤ fs.length) : (mkFs k fs j).length = fs.length := by simp [mkFs, iotF]; omega
theorem mkFs_all (k : Int) (fs : List Fr) : mkFs k fs fs.length = iotF k fs.length := by simp [mkFs]
theorem mkFs_set {k : Int} {fs : List Fr} {j : Nat} (h : j < fs.length) (d : Int) : ((mkFs k fs j).set j ⟨k + 2 * j, d⟩).set j ⟨(gf ((mkFs k fs j).set j ⟨k + 2 * j, d⟩) j).num, k + 2 * j + 1⟩ = mkFs k fs (j + 1) := by
  have hl := mkFs_len (k := k) (fs := fs) (j := j) (by omega)
  rw [gf_set (by omega), List.set_set]
  unfold mkFs
  rw [List.set_append_right _ _ (by rw [iotF_len]; exact Nat.le_refl _), iotF_len, Nat.sub_self, List.drop_eq_getElem_cons h, List.set_cons_zero]
  unfold iotF
  rw [List.range_succ, List.map_append]
  simp
theorem iotF_at {k : Int} {n j : Nat} (h : j < n) : gf (iotF k n) j = ⟨k + 2 * j, k + 2 * j + 1⟩ := by
  unfold gf iotF
  rw [List.getD_eq_getElem?_getD, List.getElem?_map, List.getElem?_range h]
  rfl
set_option maxRecDepth 20000 in
set_option maxHeartbeats 4000000 in
theorem eqFracS_fn (x : List Fr) (hx : x.length ≤ 1048576) : Fn Try.prog tyT 14 [.c (.lst 43 (dFrs x)), .c (.lst 43 (dFrs x))] [.c (.bool true)] := by
  have hQ := fun k => eqFr_fn (gf x k)
  unfold dFr at hQ
  refine Fn_of (fn := Try.f14) (ts := [4]) Try.func14 (by kernel_rfl) rfl rfl (by rw [Try.ntmps14]; exact Nat.le_of_ble_eq_true rfl) rfl (by simp only [szA, List.mem_cons, List.not_mem_nil, or_false, forall_eq_or_imp, forall_eq, VT.cells, szL]; try decide) ?_
  rw [Try.ntmps14]
  simp only [push_cast, ↓brB_true, ↓brB_false, ↓reduceIte, reduceMod, reduceMul, reduceDiv, reduceAdd, reduceSub, reduceEqDiff, Nat.reduceBEq, reduceLT, reduceLeDiff, reduceCtorEq]
  refine awp_seq' fun K hK => ?_
  refine awp_region tyOk tyPos [] rfl ?_
  simp only [push_cast, ↓brB_true, ↓brB_false, ↓reduceIte, reduceMod, reduceMul, reduceDiv, reduceAdd, reduceSub, reduceEqDiff, Nat.reduceBEq, reduceLT, reduceLeDiff, reduceCtorEq]
  repeat' apply And.intro
  all_goals first | exact True.intro | exact rfl | omega | with_reducible assumption | (simp only [List.length_set, List.length_append, List.length_replicate, List.length_cons, List.length_nil]; omega) | skip
  all_goals first | (refine hK _ ?_; clear hK K) | (simp only [push_cast]; done)
  refine awp_seq' fun K1 hK1 => ?_
  refine awp_seq' fun K hK => ?_
  refine awp_region tyOk tyPos [] rfl ?_
  simp only [push_cast, ↓brB_true, ↓brB_false, ↓reduceIte, reduceMod, reduceMul, reduceDiv, reduceAdd, reduceSub, reduceEqDiff, Nat.reduceBEq, reduceLT, reduceLeDiff, reduceCtorEq]
  repeat' apply And.intro
  all_goals first | exact True.intro | exact rfl | omega | with_reducible assumption | (simp only [List.length_set, List.length_append, List.length_replicate, List.length_cons, List.length_nil]; omega) | skip
  all_goals first | (refine hK _ ?_; clear hK K) | (simp only [push_cast]; done)
  refine awp_cond rfl (fun hc => ?_) (fun hc => ?_)
  skip
  · exfalso; first | (cases hc; done) | (simp only [push_cast] at hc; done) | (simp only [push_cast] at hc; omega) | omega
  refine awp_skip ?_
  (try simp only [AThen, ABlk, reduceIte, reduceEqDiff]); refine hK1 _ ?_
  refine awp_seq' fun K2 hK2 => ?_
  refine awp_seq' fun K hK => ?_
  refine awp_region tyOk tyPos [] rfl ?_
  simp only [push_cast, ↓brB_true, ↓brB_false, ↓reduceIte, reduceMod, reduceMul, reduceDiv, reduceAdd, reduceSub, reduceEqDiff, Nat.reduceBEq, reduceLT, reduceLeDiff, reduceCtorEq]
  repeat' apply And.intro
  all_goals first | exact True.intro | exact rfl | omega | with_reducible assumption | (simp only [List.length_set, List.length_append, List.length_replicate, List.length_cons, List.length_nil]; omega) | skip
  all_goals first | (refine hK _ ?_; clear hK K) | (simp only [push_cast]; done)
  refine awp_block ?_
  refine awp_loopU [4,5,11,12,13,14,15,16,17,18,19,20,21,22,23,24,25,26] [] (fun (k : Nat) => [(5, .int .i64 k)]) (fun k => []) (fun k => []) (fun k => k ≤ x.length) (fun k => x.length - k) 0 ?_ (by omega) ?_
  ·
    refine cov_of rfl ?_ ?_ ?_ <;> simp only [covS, covL, push_cast, ↓brB_true, ↓brB_false, ↓reduceIte, reduceMod, reduceMul, reduceDiv, reduceAdd, reduceSub, reduceEqDiff, Nat.reduceBEq, reduceLT, reduceLeDiff, reduceCtorEq]
  · rintro k hk KL0 hL0
    simp only [push_cast, ↓brB_true, ↓brB_false, ↓reduceIte, reduceMod, reduceMul, reduceDiv, reduceAdd, reduceSub, reduceEqDiff, Nat.reduceBEq, reduceLT, reduceLeDiff, reduceCtorEq]
    refine awp_seq' fun K3 hK3 => ?_
    refine awp_seq' fun K hK => ?_
    refine awp_region tyOk tyPos [] rfl ?_
    simp only [push_cast, ↓brB_true, ↓brB_false, ↓reduceIte, reduceMod, reduceMul, reduceDiv, reduceAdd, reduceSub, reduceEqDiff, Nat.reduceBEq, reduceLT, reduceLeDiff, reduceCtorEq]
    repeat' apply And.intro
    all_goals first | exact True.intro | exact rfl | omega | with_reducible assumption | (simp only [List.length_set, List.length_append, List.length_replicate, List.length_cons, List.length_nil]; omega) | skip
    all_goals first | (refine hK _ ?_; clear hK K) | (simp only [push_cast]; done)
    refine awp_cond rfl (fun hc => ?_) (fun hc => ?_) <;> (try simp only [push_cast] at hc)
    ·
      refine awp_skip ?_
      (try simp only [AThen, ABlk, reduceIte, reduceEqDiff]); refine hK3 _ ?_
      refine awp_seq' fun K4 hK4 => ?_
      refine awp_block ?_
      refine awp_seq' fun K hK => ?_
      refine awp_regionD1 false tyOk tyPos tyMix ?_ rfl ?_
      · kernel_rfl
      intro E hE
      all_goals refine lexF_cut 9 (by decide) fun K9 hK9 => ?_
      all_goals simp only [push_cast, ↓brB_true, ↓brB_false, ↓reduceIte, reduceMod, reduceMul, reduceDiv, reduceAdd, reduceSub, reduceEqDiff, Nat.reduceBEq, reduceLT, reduceLeDiff, reduceCtorEq]
      all_goals repeat' (first | (apply brB_mk <;> (intro hg; (try simp only [push_cast] at hg))) | (refine ⟨_, hQ k, ?_⟩; simp only [push_cast, ↓brB_true, ↓brB_false, ↓reduceIte, reduceMod, reduceMul, reduceDiv, reduceAdd, reduceSub, reduceEqDiff, Nat.reduceBEq, reduceLT, reduceLeDiff, reduceCtorEq]) | apply And.intro | (intro hg; (try simp only [push_cast] at hg)))
      all_goals first | exact True.intro | exact rfl | contradiction | omega | with_reducible assumption | skip
      all_goals first | (refine hK9 _ _ ?_; clear hK9 K9) | (simp only [push_cast]; done)
      all_goals simp only [push_cast, ↓brB_true, ↓brB_false, ↓reduceIte, reduceMod, reduceMul, reduceDiv, reduceAdd, reduceSub, reduceEqDiff, Nat.reduceBEq, reduceLT, reduceLeDiff, reduceCtorEq]
      all_goals repeat' (first | (apply brB_mk <;> (intro hg; (try simp only [push_cast] at hg))) | (refine ⟨_, hQ k, ?_⟩; simp only [push_cast, ↓brB_true, ↓brB_false, ↓reduceIte, reduceMod, reduceMul, reduceDiv, reduceAdd, reduceSub, reduceEqDiff, Nat.reduceBEq, reduceLT, reduceLeDiff, reduceCtorEq]) | apply And.intro | (intro hg; (try simp only [push_cast] at hg)))
      all_goals first | exact True.intro | exact rfl | contradiction | omega | with_reducible assumption | (refine hE _ _ ?_ ?_; kernel_rfl) | skip
      all_goals clear hE E
      all_goals first | (refine hK _ ?_; clear hK K) | (simp only [push_cast]; done)
      refine awp_cond rfl (fun hc => ?_) (fun hc => ?_)
      skip
      · exfalso; first | (cases hc; done) | (simp only [push_cast] at hc; done) | (simp only [push_cast] at hc; omega) | omega
      refine awp_skip ?_
      (try simp only [AThen, ABlk, reduceIte, reduceEqDiff]); refine hK4 _ ?_
      refine awp_region tyOk tyPos [] rfl ?_
      simp only [push_cast, ↓brB_true, ↓brB_false, ↓reduceIte, reduceMod, reduceMul, reduceDiv, reduceAdd, reduceSub, reduceEqDiff, Nat.reduceBEq, reduceLT, reduceLeDiff, reduceCtorEq]
      repeat' apply And.intro
      all_goals first | exact True.intro | exact rfl | omega | with_reducible assumption | (simp only [List.length_set, List.length_append, List.length_replicate, List.length_cons, List.length_nil]; omega) | skip
      refine hL0 _ ⟨k + 1, by omega, by omega, ?_⟩
      refine cov_of rfl ?_ ?_ ?_ <;> simp only [covS, covL, push_cast, ↓brB_true, ↓brB_false, ↓reduceIte, reduceMod, reduceMul, reduceDiv, reduceAdd, reduceSub, reduceEqDiff, Nat.reduceBEq, reduceLT, reduceLeDiff, reduceCtorEq]
    ·
      refine awp_exit ?_
      (try simp only [AThen, ABlk, reduceIte, reduceEqDiff]); refine hK2 _ ?_
      refine awp_seq' fun K hK => ?_
      refine awp_region tyOk tyPos [] rfl ?_
      simp only [push_cast, ↓brB_true, ↓brB_false, ↓reduceIte, reduceMod, reduceMul, reduceDiv, reduceAdd, reduceSub, reduceEqDiff, Nat.reduceBEq, reduceLT, reduceLeDiff, reduceCtorEq]
      repeat' apply And.intro
      all_goals first | exact True.intro | exact rfl | omega | with_reducible assumption | (simp only [List.length_set, List.length_append, List.length_replicate, List.length_cons, List.length_nil]; omega) | skip
      all_goals first | (refine hK _ ?_; clear hK K) | (simp only [push_cast]; done)
      refine awp_ret ?_
      (try simp only [AThen, ABlk])
      refine ⟨Or.inl rfl, ?_⟩
      simp only [RetOk, push_cast, ↓brB_true, ↓brB_false, ↓reduceIte, reduceMod, reduceMul, reduceDiv, reduceAdd, reduceSub, reduceEqDiff, Nat.reduceBEq, reduceLT, reduceLeDiff, reduceCtorEq]
set_option maxRecDepth 20000 in
set_option maxHeartbeats 4000000 in
theorem markFracS_fn (x : List Fr) (k : Int) (h0 : 0 ≤ k) (h1 : k + x.length + x.length ≤ 4611686018427387904) : FnG Try.prog tyT 17 [.c (.lst 43 (dFrs x)), .c (.int .i64 k)] [0] [(0, 43, dFrs (iotF k x.length))] [.c (.int .i64 (k + x.length + x.length))] := by
  refine FnG_of (fn := Try.f17) (rs := [.tmp 4]) (own := [0]) (outs := [(0, 43, dFrs (iotF k x.length))]) tyOk tyPos Try.func17 (by kernel_rfl) rfl rfl (by rw [Try.ntmps17]; exact Nat.le_of_ble_eq_true rfl) rfl (by simp only [szA, List.mem_cons, List.not_mem_nil, or_false, forall_eq_or_imp, forall_eq, VT.cells, szL]; try decide) ?_
  rw [Try.ntmps17]
  simp only [push_cast, ↓brB_true, ↓brB_false, ↓reduceIte, reduceMod, reduceMul, reduceDiv, reduceAdd, reduceSub, reduceEqDiff, Nat.reduceBEq, reduceLT, reduceLeDiff, reduceCtorEq]
  refine awp_seq' fun K hK => ?_
  refine awp_region tyOk tyPos [] rfl ?_
  simp only [push_cast, ↓brB_true, ↓brB_false, ↓reduceIte, reduceMod, reduceMul, reduceDiv, reduceAdd, reduceSub, reduceEqDiff, Nat.reduceBEq, reduceLT, reduceLeDiff, reduceCtorEq]
  repeat' apply And.intro
  all_goals first | exact True.intro | exact rfl | omega | with_reducible assumption | (simp only [List.length_set, List.length_append, List.length_replicate, List.length_cons, List.length_nil]; omega) | skip
  all_goals first | (refine hK _ ?_; clear hK K) | (simp only [push_cast]; done)
  refine awp_seq' fun K1 hK1 => ?_
  refine awp_seq' fun K hK => ?_
  refine awp_region tyOk tyPos [] rfl ?_
  simp only [push_cast, ↓brB_true, ↓brB_false, ↓reduceIte, reduceMod, reduceMul, reduceDiv, reduceAdd, reduceSub, reduceEqDiff, Nat.reduceBEq, reduceLT, reduceLeDiff, reduceCtorEq]
  repeat' apply And.intro
  all_goals first | exact True.intro | exact rfl | omega | with_reducible assumption | (simp only [List.length_set, List.length_append, List.length_replicate, List.length_cons, List.length_nil]; omega) | skip
  all_goals first | (refine hK _ ?_; clear hK K) | (simp only [push_cast]; done)
  refine awp_block ?_
  refine awp_loopU [1,5,6,7,8,9,10,11,12,13,14,15,16,17,18,19,20,21,22,23,24,25] [0] (fun (j : Nat) => [(5, .int .i64 j), (1, .int .i64 (k + 2 * j))]) (fun j => []) (fun j => [(0, ⟨.ex, 43, dFrs (mkFs k x j), some 0⟩)]) (fun j => j ≤ x.length) (fun j => x.length - j) 0 ?_ (by omega) ?_
  ·
    rw [mkFs_0, show k + 2 * ((0 : Nat) : Int) = k from by omega]
    refine cov_of rfl ?_ ?_ ?_ <;> simp only [covS, covL, push_cast, ↓brB_true, ↓brB_false, ↓reduceIte, reduceMod, reduceMul, reduceDiv, reduceAdd, reduceSub, reduceEqDiff, Nat.reduceBEq, reduceLT, reduceLeDiff, reduceCtorEq]
  · rintro j hj KL0 hL0
    have hl := mkFs_len (k := k) hj
    simp only [push_cast, ↓brB_true, ↓brB_false, ↓reduceIte, reduceMod, reduceMul, reduceDiv, reduceAdd, reduceSub, reduceEqDiff, Nat.reduceBEq, reduceLT, reduceLeDiff, reduceCtorEq]
    refine awp_seq' fun K2 hK2 => ?_
    refine awp_seq' fun K hK => ?_
    refine awp_region tyOk tyPos [] rfl ?_
    simp only [push_cast, ↓brB_true, ↓brB_false, ↓reduceIte, reduceMod, reduceMul, reduceDiv, reduceAdd, reduceSub, reduceEqDiff, Nat.reduceBEq, reduceLT, reduceLeDiff, reduceCtorEq]
    repeat' apply And.intro
    all_goals first | exact True.intro | exact rfl | omega | with_reducible assumption | (simp only [List.length_set, List.length_append, List.length_replicate, List.length_cons, List.length_nil]; omega) | skip
    all_goals first | (refine hK _ ?_; clear hK K) | (simp only [push_cast]; done)
    refine awp_cond rfl (fun hc => ?_) (fun hc => ?_) <;> (try simp only [push_cast] at hc)
    ·
      refine awp_skip ?_
      (try simp only [AThen, ABlk, reduceIte, reduceEqDiff]); refine hK2 _ ?_
      refine awp_seq' fun K3 hK3 => ?_
      refine awp_block ?_
      refine awp_seq' fun K hK => ?_
      refine awp_region tyOk tyPos [] rfl ?_
      simp only [push_cast, ↓brB_true, ↓brB_false, ↓reduceIte, reduceMod, reduceMul, reduceDiv, reduceAdd, reduceSub, reduceEqDiff, Nat.reduceBEq, reduceLT, reduceLeDiff, reduceCtorEq]
      repeat' apply And.intro
      all_goals first | exact True.intro | exact rfl | omega | with_reducible assumption | (simp only [List.length_set, List.length_append, List.length_replicate, List.length_cons, List.length_nil]; omega) | skip
      all_goals first | (refine hK _ ?_; clear hK K) | (simp only [push_cast]; done)
      refine awp_seq' fun K hK => ?_
      refine awp_region tyOk tyPos [] rfl ?_
      simp only [push_cast, ↓brB_true, ↓brB_false, ↓reduceIte, reduceMod, reduceMul, reduceDiv, reduceAdd, reduceSub, reduceEqDiff, Nat.reduceBEq, reduceLT, reduceLeDiff, reduceCtorEq]
      repeat' apply And.intro
      all_goals first | exact True.intro | exact rfl | omega | with_reducible assumption | (simp only [List.length_set, List.length_append, List.length_replicate, List.length_cons, List.length_nil]; omega) | skip
      all_goals first | (refine hK _ ?_; clear hK K) | (simp only [push_cast]; done)
      refine awp_seq' fun K hK => ?_
      refine awp_region tyOk tyPos [] rfl ?_
      simp only [push_cast, ↓brB_true, ↓brB_false, ↓reduceIte, reduceMod, reduceMul, reduceDiv, reduceAdd, reduceSub, reduceEqDiff, Nat.reduceBEq, reduceLT, reduceLeDiff, reduceCtorEq]
      repeat' apply And.intro
      all_goals first | exact True.intro | exact rfl | omega | with_reducible assumption | (simp only [List.length_set, List.length_append, List.length_replicate, List.length_cons, List.length_nil]; omega) | skip
      all_goals first | (refine hK _ ?_; clear hK K) | (simp only [push_cast]; done)
      refine awp_region tyOk tyPos [] rfl ?_
      simp only [push_cast, ↓brB_true, ↓brB_false, ↓reduceIte, reduceMod, reduceMul, reduceDiv, reduceAdd, reduceSub, reduceEqDiff, Nat.reduceBEq, reduceLT, reduceLeDiff, reduceCtorEq]
      repeat' apply And.intro
      all_goals first | exact True.intro | exact rfl | omega | with_reducible assumption | (simp only [List.length_set, List.length_append, List.length_replicate, List.length_cons, List.length_nil]; omega) | skip
      (try simp only [AThen, ABlk, reduceIte, reduceEqDiff]); refine hK3 _ ?_
      refine awp_region tyOk tyPos [] rfl ?_
      simp only [push_cast, ↓brB_true, ↓brB_false, ↓reduceIte, reduceMod, reduceMul, reduceDiv, reduceAdd, reduceSub, reduceEqDiff, Nat.reduceBEq, reduceLT, reduceLeDiff, reduceCtorEq]
      repeat' apply And.intro
      all_goals first | exact True.intro | exact rfl | omega | with_reducible assumption | (simp only [List.length_set, List.length_append, List.length_replicate, List.length_cons, List.length_nil]; omega) | skip
      refine hL0 _ ⟨j + 1, by omega, by omega, ?_⟩
      rw [mkFs_set (by omega)]
      refine cov_of rfl ?_ ?_ ?_ <;> simp only [covS, covL, push_cast, ↓brB_true, ↓brB_false, ↓reduceIte, reduceMod, reduceMul, reduceDiv, reduceAdd, reduceSub, reduceEqDiff, Nat.reduceBEq, reduceLT, reduceLeDiff, reduceCtorEq]
      all_goals (try (refine congrArg (AV.int .i64) ?_; omega))
    ·
      refine awp_exit ?_
      have hjj : j = x.length := by omega
      subst hjj
      rw [mkFs_all, show k + 2 * (x.length : Int) = k + x.length + x.length from by omega]
      (try simp only [AThen, ABlk, reduceIte, reduceEqDiff]); refine hK1 _ ?_
      refine awp_seq' fun K hK => ?_
      refine awp_region tyOk tyPos [] rfl ?_
      simp only [push_cast, ↓brB_true, ↓brB_false, ↓reduceIte, reduceMod, reduceMul, reduceDiv, reduceAdd, reduceSub, reduceEqDiff, Nat.reduceBEq, reduceLT, reduceLeDiff, reduceCtorEq]
      repeat' apply And.intro
      all_goals first | exact True.intro | exact rfl | omega | with_reducible assumption | (simp only [List.length_set, List.length_append, List.length_replicate, List.length_cons, List.length_nil]; omega) | skip
      all_goals first | (refine hK _ ?_; clear hK K) | (simp only [push_cast]; done)
      refine awp_ret ?_
      (try simp only [AThen, ABlk])
      refine ⟨Or.inl rfl, ?_⟩
      simp only [RetOkG, outsOk, resVars, resVar, push_cast, ↓brB_true, ↓brB_false, ↓reduceIte, reduceMod, reduceMul, reduceDiv, reduceAdd, reduceSub, reduceEqDiff, Nat.reduceBEq, reduceLT, reduceLeDiff, reduceCtorEq]
set_option maxRecDepth 20000 in
set_option maxHeartbeats 4000000 in
theorem heldFracS_fn (n : Nat) (k : Int) (h0 : 0 ≤ k) (h1 : k + n + n ≤ 4611686018427387904) : Fn Try.prog tyT 18 [.c (.lst 43 (dFrs (iotF k n))), .c (.int .i64 k)] [.c (.int .i64 (k + n + n))] := by
  have hn := iotF_len k n
  refine Fn_of (fn := Try.f18) (ts := [4]) Try.func18 (by kernel_rfl) rfl rfl (by rw [Try.ntmps18]; exact Nat.le_of_ble_eq_true rfl) rfl (by simp only [szA, List.mem_cons, List.not_mem_nil, or_false, forall_eq_or_imp, forall_eq, VT.cells, szL]; try decide) ?_
  rw [Try.ntmps18]
  simp only [push_cast, ↓brB_true, ↓brB_false, ↓reduceIte, reduceMod, reduceMul, reduceDiv, reduceAdd, reduceSub, reduceEqDiff, Nat.reduceBEq, reduceLT, reduceLeDiff, reduceCtorEq]
  refine awp_seq' fun K hK => ?_
  refine awp_region tyOk tyPos [] rfl ?_
  simp only [push_cast, ↓brB_true, ↓brB_false, ↓reduceIte, reduceMod, reduceMul, reduceDiv, reduceAdd, reduceSub, reduceEqDiff, Nat.reduceBEq, reduceLT, reduceLeDiff, reduceCtorEq]
  repeat' apply And.intro
  all_goals first | exact True.intro | exact rfl | omega | with_reducible assumption | (simp only [List.length_set, List.length_append, List.length_replicate, List.length_cons, List.length_nil]; omega) | skip
  all_goals first | (refine hK _ ?_; clear hK K) | (simp only [push_cast]; done)
  refine awp_seq' fun K1 hK1 => ?_
  refine awp_seq' fun K hK => ?_
  refine awp_region tyOk tyPos [] rfl ?_
  simp only [push_cast, ↓brB_true, ↓brB_false, ↓reduceIte, reduceMod, reduceMul, reduceDiv, reduceAdd, reduceSub, reduceEqDiff, Nat.reduceBEq, reduceLT, reduceLeDiff, reduceCtorEq]
  repeat' apply And.intro
  all_goals first | exact True.intro | exact rfl | omega | with_reducible assumption | (simp only [List.length_set, List.length_append, List.length_replicate, List.length_cons, List.length_nil]; omega) | skip
  all_goals first | (refine hK _ ?_; clear hK K) | (simp only [push_cast]; done)
  refine awp_block ?_
  refine awp_loopU [1,4,5,6,7,8,9,10,11,12,13,14,15,16,17,18,19,20,21,22,23,24,25,26,27,28,29] [] (fun (j : Nat) => [(5, .int .i64 j), (1, .int .i64 (k + 2 * j))]) (fun j => []) (fun j => []) (fun j => j ≤ n) (fun j => n - j) 0 ?_ (by omega) ?_
  ·
    rw [show k + 2 * ((0 : Nat) : Int) = k from by omega]
    refine cov_of rfl ?_ ?_ ?_ <;> simp only [covS, covL, push_cast, ↓brB_true, ↓brB_false, ↓reduceIte, reduceMod, reduceMul, reduceDiv, reduceAdd, reduceSub, reduceEqDiff, Nat.reduceBEq, reduceLT, reduceLeDiff, reduceCtorEq]
  · rintro j hj KL0 hL0
    simp only [push_cast, ↓brB_true, ↓brB_false, ↓reduceIte, reduceMod, reduceMul, reduceDiv, reduceAdd, reduceSub, reduceEqDiff, Nat.reduceBEq, reduceLT, reduceLeDiff, reduceCtorEq]
    refine awp_seq' fun K2 hK2 => ?_
    refine awp_seq' fun K hK => ?_
    refine awp_region tyOk tyPos [] rfl ?_
    simp only [push_cast, ↓brB_true, ↓brB_false, ↓reduceIte, reduceMod, reduceMul, reduceDiv, reduceAdd, reduceSub, reduceEqDiff, Nat.reduceBEq, reduceLT, reduceLeDiff, reduceCtorEq]
    repeat' apply And.intro
    all_goals first | exact True.intro | exact rfl | omega | with_reducible assumption | (simp only [List.length_set, List.length_append, List.length_replicate, List.length_cons, List.length_nil]; omega) | skip
    all_goals first | (refine hK _ ?_; clear hK K) | (simp only [push_cast]; done)
    refine awp_cond rfl (fun hc => ?_) (fun hc => ?_) <;> (try simp only [push_cast] at hc)
    ·
      refine awp_skip ?_
      (try simp only [AThen, ABlk, reduceIte, reduceEqDiff]); refine hK2 _ ?_
      refine awp_seq' fun K3 hK3 => ?_
      refine awp_block ?_
      refine awp_seq' fun K4 hK4 => ?_
      refine awp_seq' fun K hK => ?_
      refine awp_region tyOk tyPos [] rfl ?_
      simp only [push_cast, ↓brB_true, ↓brB_false, ↓reduceIte, reduceMod, reduceMul, reduceDiv, reduceAdd, reduceSub, reduceEqDiff, Nat.reduceBEq, reduceLT, reduceLeDiff, reduceCtorEq]
      repeat' apply And.intro
      all_goals first | exact True.intro | exact rfl | omega | with_reducible assumption | (simp only [List.length_set, List.length_append, List.length_replicate, List.length_cons, List.length_nil]; omega) | skip
      all_goals first | (refine hK _ ?_; clear hK K) | (simp only [push_cast]; done)
      refine awp_cond rfl (fun hc => ?_) (fun hc => ?_)
      skip
      · exfalso; (rw [iotF_at (by omega)] at hc; simp at hc)
      refine awp_skip ?_
      (try simp only [AThen, ABlk, reduceIte, reduceEqDiff]); refine hK4 _ ?_
      refine awp_seq' fun K hK => ?_
      refine awp_region tyOk tyPos [] rfl ?_
      simp only [push_cast, ↓brB_true, ↓brB_false, ↓reduceIte, reduceMod, reduceMul, reduceDiv, reduceAdd, reduceSub, reduceEqDiff, Nat.reduceBEq, reduceLT, reduceLeDiff, reduceCtorEq]
      repeat' apply And.intro
      all_goals first | exact True.intro | exact rfl | omega | with_reducible assumption | (simp only [List.length_set, List.length_append, List.length_replicate, List.length_cons, List.length_nil]; omega) | skip
      all_goals first | (refine hK _ ?_; clear hK K) | (simp only [push_cast]; done)
      refine awp_seq' fun K5 hK5 => ?_
      refine awp_seq' fun K hK => ?_
      refine awp_region tyOk tyPos [] rfl ?_
      simp only [push_cast, ↓brB_true, ↓brB_false, ↓reduceIte, reduceMod, reduceMul, reduceDiv, reduceAdd, reduceSub, reduceEqDiff, Nat.reduceBEq, reduceLT, reduceLeDiff, reduceCtorEq]
      repeat' apply And.intro
      all_goals first | exact True.intro | exact rfl | omega | with_reducible assumption | (simp only [List.length_set, List.length_append, List.length_replicate, List.length_cons, List.length_nil]; omega) | skip
      all_goals first | (refine hK _ ?_; clear hK K) | (simp only [push_cast]; done)
      refine awp_cond rfl (fun hc => ?_) (fun hc => ?_)
      skip
      · exfalso; (rw [iotF_at (by omega)] at hc; first | (simp at hc; done) | (simp at hc; omega))
      refine awp_skip ?_
      (try simp only [AThen, ABlk, reduceIte, reduceEqDiff]); refine hK5 _ ?_
      refine awp_region tyOk tyPos [] rfl ?_
      simp only [push_cast, ↓brB_true, ↓brB_false, ↓reduceIte, reduceMod, reduceMul, reduceDiv, reduceAdd, reduceSub, reduceEqDiff, Nat.reduceBEq, reduceLT, reduceLeDiff, reduceCtorEq]
      repeat' apply And.intro
      all_goals first | exact True.intro | exact rfl | omega | with_reducible assumption | (simp only [List.length_set, List.length_append, List.length_replicate, List.length_cons, List.length_nil]; omega) | skip
      (try simp only [AThen, ABlk, reduceIte, reduceEqDiff]); refine hK3 _ ?_
      refine awp_region tyOk tyPos [] rfl ?_
      simp only [push_cast, ↓brB_true, ↓brB_false, ↓reduceIte, reduceMod, reduceMul, reduceDiv, reduceAdd, reduceSub, reduceEqDiff, Nat.reduceBEq, reduceLT, reduceLeDiff, reduceCtorEq]
      repeat' apply And.intro
      all_goals first | exact True.intro | exact rfl | omega | with_reducible assumption | (simp only [List.length_set, List.length_append, List.length_replicate, List.length_cons, List.length_nil]; omega) | skip
      refine hL0 _ ⟨j + 1, by omega, by omega, ?_⟩
      refine cov_of rfl ?_ ?_ ?_ <;> simp only [covS, covL, push_cast, ↓brB_true, ↓brB_false, ↓reduceIte, reduceMod, reduceMul, reduceDiv, reduceAdd, reduceSub, reduceEqDiff, Nat.reduceBEq, reduceLT, reduceLeDiff, reduceCtorEq]
      all_goals (try (refine congrArg (AV.int .i64) ?_; omega))
    ·
      refine awp_exit ?_
      have hjj : j = n := by omega
      subst hjj
      rw [show k + 2 * (j : Int) = k + j + j from by omega]
      (try simp only [AThen, ABlk, reduceIte, reduceEqDiff]); refine hK1 _ ?_
      refine awp_seq' fun K hK => ?_
      refine awp_region tyOk tyPos [] rfl ?_
      simp only [push_cast, ↓brB_true, ↓brB_false, ↓reduceIte, reduceMod, reduceMul, reduceDiv, reduceAdd, reduceSub, reduceEqDiff, Nat.reduceBEq, reduceLT, reduceLeDiff, reduceCtorEq]
      repeat' apply And.intro
      all_goals first | exact True.intro | exact rfl | omega | with_reducible assumption | (simp only [List.length_set, List.length_append, List.length_replicate, List.length_cons, List.length_nil]; omega) | skip
      all_goals first | (refine hK _ ?_; clear hK K) | (simp only [push_cast]; done)
      refine awp_ret ?_
      (try simp only [AThen, ABlk])
      refine ⟨Or.inl rfl, ?_⟩
      simp only [RetOk, push_cast, ↓brB_true, ↓brB_false, ↓reduceIte, reduceMod, reduceMul, reduceDiv, reduceAdd, reduceSub, reduceEqDiff, Nat.reduceBEq, reduceLT, reduceLeDiff, reduceCtorEq]
end Go.Proofs.Ytfipgnbpkbnalaa
