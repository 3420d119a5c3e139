/- records of pairs: right records; both sides -/
import Derived.Test.YtdbecmmeifdafaaB8zrs
namespace Go.Proofs.Ytdbecmmeifdafaa
open Nat renaming reduceMod → zA, reduceMul → zB, reduceDiv → zC, reduceAdd → zD, reduceSub → zE, reduceEqDiff → zF, reduceBEq → zG, reduceLT → zH, reduceLeDiff → zI
open Go.RowKit
set_option linter.unusedVariables false
set_option linter.unusedSimpArgs false

attribute [-push_cast] rm
def snS (s : List Int) (n : Nat) : Nat → List Bool
  | 0 => List.replicate n false
  | k + 1 => (snS s n k).set (gi s k).toNat true
theorem snS_len (s : List Int) (n : Nat) : ∀ k, (snS s n k).length = n
  | 0 => by simp [snS]
  | k + 1 => by unfold snS; rw [List.length_set]; exact snS_len s n k
theorem gb_set9 {c : List Bool} {v u : Nat} (hv : v < c.length) : gb (c.set v true) u = if u = v then true else gb c u := by
  unfold gb
  rw [List.getD_eq_getElem?_getD, List.getD_eq_getElem?_getD, List.getElem?_set]
  by_cases e : u = v
  · subst e; rw [if_pos rfl, if_pos rfl, if_pos hv]; rfl
  · rw [if_neg (fun h => e h.symm), if_neg e]
theorem snS_gb {s : List Int} {n : Nat} : ∀ k, (∀ j, j < k → 0 ≤ gi s j ∧ gi s j < n) → ∀ v, v < n → (gb (snS s n k) v = true ↔ ∃ j, j < k ∧ gi s j = v)
  | 0, _, v, hv => by
    have : gb (snS s n 0) v = false := by
      unfold snS gb
      rw [List.getD_eq_getElem?_getD, List.getElem?_replicate]
      split <;> rfl
    rw [this]
    constructor
    · intro h; cases h
    · rintro ⟨j, hj, -⟩; omega
  | k + 1, hs, v, hv => by
    have h := hs k (by omega)
    unfold snS
    rw [gb_set9 (by rw [snS_len]; omega)]
    split
    · rename_i e
      exact ⟨fun _ => ⟨k, by omega, by omega⟩, fun _ => rfl⟩
    · rename_i e
      rw [snS_gb k (fun j hj => hs j (by omega)) v hv]
      constructor
      · rintro ⟨j, hj, e2⟩; exact ⟨j, by omega, e2⟩
      · rintro ⟨j, hj, e2⟩
        have : j ≠ k := fun e3 => e (by subst e3; omega)
        exact ⟨j, by omega, e2⟩
theorem hasB_ix {s : List Int} {x : Int} : hasB s x = true ↔ ∃ j, j < s.length ∧ gi s j = x := by
  unfold hasB
  rw [decide_eq_true_eq]
  constructor
  · intro h; exact ⟨_, h, fidx_spec h⟩
  · rintro ⟨j, hj, e⟩
    rcases Nat.lt_or_ge (fidx s x) s.length with h | h
    · exact h
    · exact absurd e (fidx_before (by have := fidx_le s x; omega))
theorem gi_tk {s : List Int} {j k : Nat} (h : j < k) : gi (s.take k) j = gi s j := by
  unfold gi
  rw [List.getD_eq_getElem?_getD, List.getD_eq_getElem?_getD, List.getElem?_take_of_lt h]
def recAt (r : List Int) (n : Int) (i : Nat) : Bool := decide (0 ≤ gi r i ∧ gi r i < n) && !hasB (r.take i) (gi r i)
def recB (r : List Int) (n : Int) : Bool := decide ((0 ≤ n ∧ n ≤ 4) ∧ (r.length : Int) = n) && allB r.length (recAt r n)
theorem recAt_no1 {r : List Int} {n : Int} {i : Nat} (h : ¬ (0 ≤ gi r i ∧ gi r i < n)) : recAt r n i = false := by unfold recAt; rw [decide_eq_false h]; rfl
theorem recAt_no2 {r : List Int} {n : Int} {i : Nat} (h : hasB (r.take i) (gi r i) = true) : recAt r n i = false := by unfold recAt; rw [h, Bool.not_true, Bool.and_false]
theorem recAt_yes {r : List Int} {n : Int} {i : Nat} (h : 0 ≤ gi r i ∧ gi r i < n) (h2 : hasB (r.take i) (gi r i) = false) : recAt r n i = true := by unfold recAt; rw [decide_eq_true h, h2]; rfl
theorem recAt_rg {r : List Int} {n : Int} {i : Nat} (h : recAt r n i = true) : (0 ≤ gi r i ∧ gi r i < n) ∧ hasB (r.take i) (gi r i) = false := by
  unfold recAt at h
  rw [Bool.and_eq_true, decide_eq_true_eq, Bool.not_eq_true'] at h
  exact h
theorem recB_no1 {r : List Int} {n : Int} (h : ¬ ((0 ≤ n ∧ n ≤ 4) ∧ (r.length : Int) = n)) : recB r n = false := by unfold recB; rw [decide_eq_false h]; rfl
theorem recB_no {r : List Int} {n : Int} {i : Nat} (hi : i < r.length) (h : recAt r n i = false) : recB r n = false := by unfold recB; rw [allB_false hi h, Bool.and_false]
theorem recB_yes {r : List Int} {n : Int} (h : (0 ≤ n ∧ n ≤ 4) ∧ (r.length : Int) = n) (h2 : ∀ i, i < r.length → recAt r n i = true) : recB r n = true := by unfold recB; rw [decide_eq_true h, allB_true h2]; rfl
theorem rec_facts {r : List Int} {n : Int} (h : recB r n = true) : ((0 ≤ n ∧ n ≤ 4) ∧ (r.length : Int) = n) ∧ ∀ i, i < r.length → (0 ≤ gi r i ∧ gi r i < n) ∧ ∀ j, j < i → gi r j ≠ gi r i := by
  unfold recB at h
  rw [Bool.and_eq_true, decide_eq_true_eq] at h
  refine ⟨h.1, fun i hi => ?_⟩
  have h1 := recAt_rg (allB_at h.2 hi)
  refine ⟨h1.1, fun j hj e => ?_⟩
  have h2 : hasB (r.take i) (gi r i) = true := hasB_ix.2 ⟨j, by rw [List.length_take]; omega, by rw [gi_tk hj]; exact e⟩
  rw [h1.2] at h2
  cases h2
theorem snS_has {r : List Int} {n k : Nat} (h : ∀ j, j < k → recAt r n j = true) (hk : k < r.length) (h2 : 0 ≤ gi r k) (h3 : gi r k < n) : gb (snS r n k) (gi r k).toNat = hasB (r.take k) (gi r k) := by
  rw [Bool.eq_iff_iff, snS_gb k (fun j hj => (recAt_rg (h j hj)).1) _ (by omega), hasB_ix]
  constructor
  · rintro ⟨j, hj, e⟩; exact ⟨j, by rw [List.length_take]; omega, by rw [gi_tk hj]; omega⟩
  · rintro ⟨j, hj, e⟩
    rw [List.length_take] at hj
    exact ⟨j, by omega, by rw [gi_tk (by omega)] at e; omega⟩
def canB (ps : List Pr) (r : List Int) (v : Int) : Bool := arB ps 256 && recB r ps.length && decide (0 ≤ v ∧ v < 256)
theorem prsB_256 (ps : List Pr) : prsB ps 256 = arB ps 256 := prsB_yes (by omega)
theorem can_facts {ps : List Pr} {r : List Int} {v : Int} (h : canB ps r v = true) : arB ps 256 = true ∧ recB r ps.length = true ∧ 0 ≤ v ∧ v < 256 := by
  unfold canB at h
  rw [Bool.and_eq_true, Bool.and_eq_true, decide_eq_true_eq] at h
  exact ⟨h.1.1, h.1.2, h.2⟩
set_option maxRecDepth 20000 in
set_option maxHeartbeats 4000000 in
theorem isRecord_fn (r : List Int) (hr : r.length ≤ 1048576) (n : Int) : Fn Try.prog tyT 94 [.c (DI r), .c (.int .i64 n)] [.c (.bool (recB r n))] := by
  refine Fn_of (fn := Try.f94) (ts := [4]) Try.func94 (by kernel_rfl) rfl rfl (by rw [Try.ntmps94]; exact Nat.le_of_ble_eq_true rfl) rfl (by simp only [szA, List.mem_cons, List.not_mem_nil, or_false, forall_eq_or_imp, forall_eq, VT.cells, szL]; try decide) ?_
  rw [Try.ntmps94]
  simp only [push_cast, ↓brB_true, ↓brB_false, ↓reduceIte, zA, zB, zC, zD, zE, zF, zG, zH, zI, reduceCtorEq]
  refine awp_seq' fun K hK => ?_
  refine awp_region tyOk tyPos [] rfl ?_
  simp only [push_cast, ↓brB_true, ↓brB_false, ↓reduceIte, zA, zB, zC, zD, zE, zF, zG, zH, zI, reduceCtorEq]
  repeat' apply And.intro
  all_goals try exact gB
  all_goals first | (refine hK _ ?_; clear hK K) | (simp only [push_cast]; done)
  refine awp_seq' fun K1 hK1 => ?_
  refine awp_seq' fun K hK => ?_
  refine awp_regionN false tyOk tyPos ?_ rfl ?_
  · kernel_rfl
  all_goals simp only [push_cast, ↓brB_true, ↓brB_false, ↓reduceIte, zA, zB, zC, zD, zE, zF, zG, zH, zI, reduceCtorEq]
  all_goals repeat' (first | (apply brB_mk <;> (intro hg; (try simp only [push_cast] at hg))) | apply And.intro | (intro hg; (try simp only [push_cast] at hg)))
  all_goals try exact gA
  all_goals first | (refine hK _ ?_; clear hK K) | (simp only [push_cast]; done)
  all_goals refine awp_cond rfl (fun hc => ?_) (fun hc => ?_)
  all_goals (first | (cases hc; done) | skip)
  all_goals (try simp only [push_cast] at hc)
  all_goals try (
      refine awp_seq' fun K hK => ?_
      refine awp_region tyOk tyPos [] rfl ?_
      simp only [push_cast, ↓brB_true, ↓brB_false, ↓reduceIte, zA, zB, zC, zD, zE, zF, zG, zH, zI, reduceCtorEq]
      repeat' apply And.intro
      all_goals try exact gB
      all_goals first | (refine hK _ ?_; clear hK K) | (simp only [push_cast]; done)
      refine awp_ret ?_
      (try simp only [AThen, ABlk])
      refine ⟨Or.inl rfl, ?_⟩
      simp only [RetOk, push_cast, ↓brB_true, ↓brB_false, ↓reduceIte, zA, zB, zC, zD, zE, zF, zG, zH, zI, reduceCtorEq]
      all_goals exact (recB_no1 (by omega)).symm
      done)
  refine awp_skip ?_
  (try simp only [AThen, ABlk, reduceIte, zF]); refine hK1 _ ?_
  obtain ⟨m, rfl⟩ : ∃ m : Nat, n = m := ⟨n.toNat, by omega⟩
  refine awp_seq' fun K hK => ?_
  refine awp_region tyOk tyPos [] rfl ?_
  simp only [push_cast, ↓brB_true, ↓brB_false, ↓reduceIte, zA, zB, zC, zD, zE, zF, zG, zH, zI, reduceCtorEq]
  repeat' apply And.intro
  all_goals try exact gB
  all_goals first | (refine hK _ ?_; clear hK K) | (simp only [push_cast]; done)
  refine awp_seq' fun K2 hK2 => ?_
  refine awp_seq' fun K hK => ?_
  refine awp_region tyOk tyPos [] rfl ?_
  simp only [push_cast, ↓brB_true, ↓brB_false, ↓reduceIte, zA, zB, zC, zD, zE, zF, zG, zH, zI, reduceCtorEq]
  repeat' apply And.intro
  all_goals try exact gB
  all_goals first | (refine hK _ ?_; clear hK K) | (simp only [push_cast]; done)
  refine awp_block ?_
  refine awp_loopU [4,7,10,14,24,25,26,27,28,29,30,31,32,33,34,35,36,37,38,39,40,41,42,43,44] [80] (fun (k : Nat) => [(24, .int .i64 k), (5, .sl 80 [] 0 m 4)]) (fun k => []) (fun k => [(80, ⟨.ex, 4, dB (snS r m k), none⟩)]) (fun k => k ≤ r.length ∧ ∀ j, j < k → recAt r m j = true) (fun k => r.length - k) 0 ?_ ⟨by omega, fun j hj => by omega⟩ ?_
  ·
    rw [show snS r m 0 = List.replicate m false from rfl]
    refine cov_of rfl ?_ ?_ ?_ <;> simp only [covS, covL, push_cast, ↓brB_true, ↓brB_false, ↓reduceIte, zA, zB, zC, zD, zE, zF, zG, zH, zI, reduceCtorEq]
  · rintro k ⟨hk, hall⟩ KL0 hL0
    simp only [push_cast, ↓brB_true, ↓brB_false, ↓reduceIte, zA, zB, zC, zD, zE, zF, zG, zH, zI, reduceCtorEq]
    refine awp_seq' fun K hK => ?_
    refine awp_region tyOk tyPos [] rfl ?_
    simp only [push_cast, ↓brB_true, ↓brB_false, ↓reduceIte, zA, zB, zC, zD, zE, zF, zG, zH, zI, reduceCtorEq]
    repeat' apply And.intro
    all_goals try exact gB
    all_goals first | (refine hK _ ?_; clear hK K) | (simp only [push_cast]; done)
    refine awp_seq' fun K3 hK3 => ?_
    refine awp_cond rfl (fun hc => ?_) (fun hc => ?_) <;> (try simp only [push_cast] at hc)
    ·
      refine awp_skip ?_
      (try simp only [AThen, ABlk, reduceIte, zF]); refine hK3 _ ?_
      refine awp_seq' fun K4 hK4 => ?_
      refine awp_block ?_
      have hsl := snS_len r m k
      have hsn := snS_has (n := m) hall (by omega)
      refine awp_seq' fun K hK => ?_
      refine awp_region tyOk tyPos [] rfl ?_
      simp only [push_cast, ↓brB_true, ↓brB_false, ↓reduceIte, zA, zB, zC, zD, zE, zF, zG, zH, zI, reduceCtorEq]
      repeat' apply And.intro
      all_goals try exact gB
      all_goals first | (refine hK _ ?_; clear hK K) | (simp only [push_cast]; done)
      refine awp_seq' fun K5 hK5 => ?_
      refine awp_seq' fun K hK => ?_
      refine awp_regionN false tyOk tyPos ?_ rfl ?_
      · kernel_rfl
      all_goals simp only [push_cast, ↓brB_true, ↓brB_false, ↓reduceIte, zA, zB, zC, zD, zE, zF, zG, zH, zI, reduceCtorEq]
      all_goals repeat' (first | (apply brB_mk <;> (intro hg; (try simp only [push_cast] at hg))) | apply And.intro | (intro hg; (try simp only [push_cast] at hg)))
      all_goals try exact gA
      all_goals first | (refine hK _ ?_; clear hK K) | (simp only [push_cast]; done)
      all_goals refine awp_cond rfl (fun hc => ?_) (fun hc => ?_)
      all_goals (first | (cases hc; done) | skip)
      all_goals (try simp only [push_cast] at hc)
      all_goals try (
          refine awp_seq' fun K hK => ?_
          refine awp_region tyOk tyPos [] rfl ?_
          simp only [push_cast, ↓brB_true, ↓brB_false, ↓reduceIte, zA, zB, zC, zD, zE, zF, zG, zH, zI, reduceCtorEq]
          repeat' apply And.intro
          all_goals try exact gB
          all_goals first | (refine hK _ ?_; clear hK K) | (simp only [push_cast]; done)
          refine awp_ret ?_
          (try simp only [AThen, ABlk])
          refine ⟨Or.inl rfl, ?_⟩
          simp only [RetOk, push_cast, ↓brB_true, ↓brB_false, ↓reduceIte, zA, zB, zC, zD, zE, zF, zG, zH, zI, reduceCtorEq]
          first | exact (recB_no (i := k) (by omega) (recAt_no1 (by omega))).symm | exact (recB_no (i := k) (by omega) (recAt_no2 (by rw [← hsn (by omega) (by omega)]; with_reducible assumption))).symm
          done)
      refine awp_skip ?_
      (try simp only [AThen, ABlk, reduceIte, zF]); refine hK5 _ ?_
      refine awp_region tyOk tyPos [] rfl ?_
      simp only [push_cast, ↓brB_true, ↓brB_false, ↓reduceIte, zA, zB, zC, zD, zE, zF, zG, zH, zI, reduceCtorEq]
      repeat' apply And.intro
      all_goals try exact gB
      (try simp only [AThen, ABlk, reduceIte, zF]); refine hK4 _ ?_
      refine awp_region tyOk tyPos [] rfl ?_
      simp only [push_cast, ↓brB_true, ↓brB_false, ↓reduceIte, zA, zB, zC, zD, zE, zF, zG, zH, zI, reduceCtorEq]
      repeat' apply And.intro
      all_goals try exact gB
      refine hL0 _ ⟨k + 1, ⟨by omega, fun j hj => (by
          by_cases hjk : j = k
          · subst hjk; exact recAt_yes (by omega) (by rw [← hsn (by omega) (by omega)]; with_reducible assumption)
          · exact hall j (by omega))⟩, by omega, ?_⟩
      rw [show (snS r m k).set (gi r k).toNat true = snS r m (k + 1) from rfl]
      refine cov_of rfl ?_ ?_ ?_ <;> simp only [covS, covL, push_cast, ↓brB_true, ↓brB_false, ↓reduceIte, zA, zB, zC, zD, zE, zF, zG, zH, zI, reduceCtorEq]
    ·
      refine awp_exit ?_
      have hkk : k = r.length := by omega
      subst hkk
      (try simp only [AThen, ABlk, reduceIte, zF]); refine hK2 _ ?_
      refine awp_seq' fun K hK => ?_
      refine awp_region tyOk tyPos [] rfl ?_
      simp only [push_cast, ↓brB_true, ↓brB_false, ↓reduceIte, zA, zB, zC, zD, zE, zF, zG, zH, zI, reduceCtorEq]
      repeat' apply And.intro
      all_goals try exact gB
      all_goals first | (refine hK _ ?_; clear hK K) | (simp only [push_cast]; done)
      refine awp_ret ?_
      (try simp only [AThen, ABlk])
      refine ⟨Or.inl rfl, ?_⟩
      simp only [RetOk, push_cast, ↓brB_true, ↓brB_false, ↓reduceIte, zA, zB, zC, zD, zE, zF, zG, zH, zI, reduceCtorEq]
      exact (recB_yes (by omega) hall).symm
set_option maxRecDepth 20000 in
set_option maxHeartbeats 4000000 in
theorem RecordOkI_fn (r : List Int) (hr : r.length ≤ 1048576) (n : Int) : Fn Try.prog tyT 40 [.c (DI r), .c (.int .i64 n)] [.c (.bool (recB r n))] := by
  refine Fn_of (fn := Try.f40) (ts := [4]) Try.func40 (by kernel_rfl) rfl rfl (by rw [Try.ntmps40]; exact Nat.le_of_ble_eq_true rfl) rfl (by simp only [szA, List.mem_cons, List.not_mem_nil, or_false, forall_eq_or_imp, forall_eq, VT.cells, szL]; try decide) ?_
  rw [Try.ntmps40]
  simp only [push_cast, ↓brB_true, ↓brB_false, ↓reduceIte, zA, zB, zC, zD, zE, zF, zG, zH, zI, reduceCtorEq]
  refine awp_seq' fun K hK => ?_
  refine awp_region tyOk tyPos [] rfl ?_
  simp only [push_cast, ↓brB_true, ↓brB_false, ↓reduceIte, zA, zB, zC, zD, zE, zF, zG, zH, zI, reduceCtorEq]
  repeat' apply And.intro
  all_goals try exact gB
  all_goals first | (refine hK _ ?_; clear hK K) | (simp only [push_cast]; done)
  refine awp_seq' fun K hK => ?_
  refine awp_region tyOk tyPos [] rfl ?_
  all_goals refine aops_cut 3 fun K9 hK9 => ?_
  all_goals simp only [push_cast, ↓brB_true, ↓brB_false, ↓reduceIte, zA, zB, zC, zD, zE, zF, zG, zH, zI, reduceCtorEq]
  all_goals repeat' (first | (apply brB_mk <;> (intro hg; (try simp only [push_cast] at hg))) | (refine ⟨_, isRecord_fn r hr n, ?_⟩; simp only [push_cast, ↓brB_true, ↓brB_false, ↓reduceIte, zA, zB, zC, zD, zE, zF, zG, zH, zI, reduceCtorEq]) | apply And.intro | (intro hg; (try simp only [push_cast] at hg)))
  all_goals try exact gA
  all_goals first | (refine hK9 _ ?_; clear hK9 K9) | (simp only [push_cast]; done)
  all_goals simp only [push_cast, ↓brB_true, ↓brB_false, ↓reduceIte, zA, zB, zC, zD, zE, zF, zG, zH, zI, reduceCtorEq]
  all_goals repeat' (first | (apply brB_mk <;> (intro hg; (try simp only [push_cast] at hg))) | (refine ⟨_, isRecord_fn r hr n, ?_⟩; simp only [push_cast, ↓brB_true, ↓brB_false, ↓reduceIte, zA, zB, zC, zD, zE, zF, zG, zH, zI, reduceCtorEq]) | apply And.intro | (intro hg; (try simp only [push_cast] at hg)))
  all_goals try exact gA
  all_goals first | (refine hK _ ?_; clear hK K) | (simp only [push_cast]; done)
  refine awp_ret ?_
  (try simp only [AThen, ABlk])
  refine ⟨Or.inl rfl, ?_⟩
  simp only [RetOk, push_cast, ↓brB_true, ↓brB_false, ↓reduceIte, zA, zB, zC, zD, zE, zF, zG, zH, zI, reduceCtorEq]
set_option maxRecDepth 20000 in
set_option maxHeartbeats 4000000 in
theorem RecordOkS_fn (r : List Int) (hr : r.length ≤ 1048576) (n : Int) : Fn Try.prog tyT 39 [.c (DI r), .c (.int .i64 n)] [.c (.bool (recB r n))] := by
  refine Fn_of (fn := Try.f39) (ts := [4]) Try.func39 (by kernel_rfl) rfl rfl (by rw [Try.ntmps39]; exact Nat.le_of_ble_eq_true rfl) rfl (by simp only [szA, List.mem_cons, List.not_mem_nil, or_false, forall_eq_or_imp, forall_eq, VT.cells, szL]; try decide) ?_
  rw [Try.ntmps39]
  simp only [push_cast, ↓brB_true, ↓brB_false, ↓reduceIte, zA, zB, zC, zD, zE, zF, zG, zH, zI, reduceCtorEq]
  refine awp_seq' fun K hK => ?_
  refine awp_region tyOk tyPos [] rfl ?_
  simp only [push_cast, ↓brB_true, ↓brB_false, ↓reduceIte, zA, zB, zC, zD, zE, zF, zG, zH, zI, reduceCtorEq]
  repeat' apply And.intro
  all_goals try exact gB
  all_goals first | (refine hK _ ?_; clear hK K) | (simp only [push_cast]; done)
  refine awp_seq' fun K1 hK1 => ?_
  refine awp_seq' fun K hK => ?_
  refine awp_regionN false tyOk tyPos ?_ rfl ?_
  · kernel_rfl
  all_goals refine seqE_cut 2 fun K9 hK9 => ?_
  all_goals simp only [push_cast, ↓brB_true, ↓brB_false, ↓reduceIte, zA, zB, zC, zD, zE, zF, zG, zH, zI, reduceCtorEq]
  all_goals repeat' (first | (apply brB_mk <;> (intro hg; (try simp only [push_cast] at hg))) | (refine ⟨_, l1In_fn n 0 4, ?_⟩; simp only [push_cast, ↓brB_true, ↓brB_false, ↓reduceIte, zA, zB, zC, zD, zE, zF, zG, zH, zI, reduceCtorEq]) | apply And.intro | (intro hg; (try simp only [push_cast] at hg)))
  all_goals try exact gA
  all_goals first | (refine hK9 _ ?_; clear hK9 K9) | (simp only [push_cast]; done)
  all_goals simp only [push_cast, ↓brB_true, ↓brB_false, ↓reduceIte, zA, zB, zC, zD, zE, zF, zG, zH, zI, reduceCtorEq]
  all_goals repeat' (first | (apply brB_mk <;> (intro hg; (try simp only [push_cast] at hg))) | (refine ⟨_, l1In_fn n 0 4, ?_⟩; simp only [push_cast, ↓brB_true, ↓brB_false, ↓reduceIte, zA, zB, zC, zD, zE, zF, zG, zH, zI, reduceCtorEq]) | apply And.intro | (intro hg; (try simp only [push_cast] at hg)))
  all_goals try exact gA
  all_goals first | (refine hK _ ?_; clear hK K) | (simp only [push_cast]; done)
  all_goals refine awp_cond rfl (fun hc => ?_) (fun hc => ?_)
  all_goals (first | (cases hc; done) | skip)
  all_goals (try simp only [push_cast] at hc)
  all_goals try (
      refine awp_seq' fun K hK => ?_
      refine awp_region tyOk tyPos [] rfl ?_
      simp only [push_cast, ↓brB_true, ↓brB_false, ↓reduceIte, zA, zB, zC, zD, zE, zF, zG, zH, zI, reduceCtorEq]
      repeat' apply And.intro
      all_goals try exact gB
      all_goals first | (refine hK _ ?_; clear hK K) | (simp only [push_cast]; done)
      refine awp_ret ?_
      (try simp only [AThen, ABlk])
      refine ⟨Or.inl rfl, ?_⟩
      simp only [RetOk, push_cast, ↓brB_true, ↓brB_false, ↓reduceIte, zA, zB, zC, zD, zE, zF, zG, zH, zI, reduceCtorEq]
      all_goals exact (recB_no1 (by omega)).symm
      done)
  refine awp_skip ?_
  (try simp only [AThen, ABlk, reduceIte, zF]); refine hK1 _ ?_
  refine awp_seq' fun K2 hK2 => ?_
  refine awp_seq' fun K hK => ?_
  refine awp_region tyOk tyPos [] rfl ?_
  simp only [push_cast, ↓brB_true, ↓brB_false, ↓reduceIte, zA, zB, zC, zD, zE, zF, zG, zH, zI, reduceCtorEq]
  repeat' apply And.intro
  all_goals try exact gB
  all_goals first | (refine hK _ ?_; clear hK K) | (simp only [push_cast]; done)
  refine awp_block ?_
  refine awp_loopU [4,5,9,15,16,17,18,19,20,21,22,23,24,25,26,27,28,29,30,31,32,33,34,35,36,37,38] [] (fun (k : Nat) => [(5, .int .i64 k)]) (fun k => []) (fun k => []) (fun k => k ≤ r.length ∧ ∀ j, j < k → recAt r n j = true) (fun k => r.length - k) 0 ?_ ⟨by omega, fun j hj => by omega⟩ ?_
  ·
    refine cov_of rfl ?_ ?_ ?_ <;> simp only [covS, covL, push_cast, ↓brB_true, ↓brB_false, ↓reduceIte, zA, zB, zC, zD, zE, zF, zG, zH, zI, reduceCtorEq]
  · rintro k ⟨hk, hall⟩ KL0 hL0
    simp only [push_cast, ↓brB_true, ↓brB_false, ↓reduceIte, zA, zB, zC, zD, zE, zF, zG, zH, zI, reduceCtorEq]
    refine awp_seq' fun K3 hK3 => ?_
    refine awp_seq' fun K hK => ?_
    refine awp_region tyOk tyPos [] rfl ?_
    simp only [push_cast, ↓brB_true, ↓brB_false, ↓reduceIte, zA, zB, zC, zD, zE, zF, zG, zH, zI, reduceCtorEq]
    repeat' apply And.intro
    all_goals try exact gB
    all_goals first | (refine hK _ ?_; clear hK K) | (simp only [push_cast]; done)
    refine awp_cond rfl (fun hc => ?_) (fun hc => ?_) <;> (try simp only [push_cast] at hc)
    ·
      refine awp_skip ?_
      (try simp only [AThen, ABlk, reduceIte, zF]); refine hK3 _ ?_
      refine awp_seq' fun K4 hK4 => ?_
      refine awp_block ?_
      refine awp_seq' fun K hK => ?_
      refine awp_regionD1 false tyOk tyPos tyMix ?_ rfl ?_
      · kernel_rfl
      intro E hE
      all_goals refine lexF_cut 7 (by decide) fun K9 hK9 => ?_
      all_goals simp only [push_cast, ↓brB_true, ↓brB_false, ↓reduceIte, zA, zB, zC, zD, zE, zF, zG, zH, zI, reduceCtorEq]
      all_goals repeat' (first | (apply brB_mk <;> (intro hg; (try simp only [push_cast] at hg))) | (refine ⟨_, l1In_fn (gi r k) 0 (n - 1), ?_⟩; simp only [push_cast, ↓brB_true, ↓brB_false, ↓reduceIte, zA, zB, zC, zD, zE, zF, zG, zH, zI, reduceCtorEq]) | (refine ⟨_, l16Has_fn (r.take k) (gi r k) (by rw [List.length_take]; omega), ?_⟩; simp only [push_cast, ↓brB_true, ↓brB_false, ↓reduceIte, zA, zB, zC, zD, zE, zF, zG, zH, zI, reduceCtorEq]) | apply And.intro | (intro hg; (try simp only [push_cast] at hg)))
      all_goals try exact gA
      all_goals first | (refine hK9 _ _ ?_; clear hK9 K9) | (simp only [push_cast]; done)
      all_goals refine lexF_cut 10 (by decide) fun K9 hK9 => ?_
      all_goals simp only [push_cast, ↓brB_true, ↓brB_false, ↓reduceIte, zA, zB, zC, zD, zE, zF, zG, zH, zI, reduceCtorEq]
      all_goals repeat' (first | (apply brB_mk <;> (intro hg; (try simp only [push_cast] at hg))) | (refine ⟨_, l1In_fn (gi r k) 0 (n - 1), ?_⟩; simp only [push_cast, ↓brB_true, ↓brB_false, ↓reduceIte, zA, zB, zC, zD, zE, zF, zG, zH, zI, reduceCtorEq]) | (refine ⟨_, l16Has_fn (r.take k) (gi r k) (by rw [List.length_take]; omega), ?_⟩; simp only [push_cast, ↓brB_true, ↓brB_false, ↓reduceIte, zA, zB, zC, zD, zE, zF, zG, zH, zI, reduceCtorEq]) | apply And.intro | (intro hg; (try simp only [push_cast] at hg)))
      all_goals try exact gA
      all_goals first | (refine hK9 _ _ ?_; clear hK9 K9) | (simp only [push_cast]; done)
      all_goals simp only [push_cast, ↓brB_true, ↓brB_false, ↓reduceIte, zA, zB, zC, zD, zE, zF, zG, zH, zI, reduceCtorEq]
      all_goals repeat' (first | (apply brB_mk <;> (intro hg; (try simp only [push_cast] at hg))) | (refine ⟨_, l1In_fn (gi r k) 0 (n - 1), ?_⟩; simp only [push_cast, ↓brB_true, ↓brB_false, ↓reduceIte, zA, zB, zC, zD, zE, zF, zG, zH, zI, reduceCtorEq]) | (refine ⟨_, l16Has_fn (r.take k) (gi r k) (by rw [List.length_take]; omega), ?_⟩; simp only [push_cast, ↓brB_true, ↓brB_false, ↓reduceIte, zA, zB, zC, zD, zE, zF, zG, zH, zI, reduceCtorEq]) | apply And.intro | (intro hg; (try simp only [push_cast] at hg)))
      all_goals first | exact gA | (refine hE _ _ ?_ ?_; kernel_rfl) | skip
      all_goals clear hE E
      all_goals first | (refine hK _ ?_; clear hK K) | (simp only [push_cast]; done)
      all_goals refine awp_cond rfl (fun hc => ?_) (fun hc => ?_)
      all_goals (first | (cases hc; done) | skip)
      all_goals (try simp only [push_cast] at hc)
      all_goals try (
          refine awp_seq' fun K hK => ?_
          refine awp_region tyOk tyPos [] rfl ?_
          simp only [push_cast, ↓brB_true, ↓brB_false, ↓reduceIte, zA, zB, zC, zD, zE, zF, zG, zH, zI, reduceCtorEq]
          repeat' apply And.intro
          all_goals try exact gB
          all_goals first | (refine hK _ ?_; clear hK K) | (simp only [push_cast]; done)
          refine awp_ret ?_
          (try simp only [AThen, ABlk])
          refine ⟨Or.inl rfl, ?_⟩
          simp only [RetOk, push_cast, ↓brB_true, ↓brB_false, ↓reduceIte, zA, zB, zC, zD, zE, zF, zG, zH, zI, reduceCtorEq]
          first | exact (recB_no (i := k) (by omega) (recAt_no1 (by omega))).symm | exact (recB_no (i := k) (by omega) (recAt_no2 (by with_reducible assumption))).symm
          done)
      refine awp_skip ?_
      (try simp only [AThen, ABlk, reduceIte, zF]); refine hK4 _ ?_
      refine awp_region tyOk tyPos [] rfl ?_
      simp only [push_cast, ↓brB_true, ↓brB_false, ↓reduceIte, zA, zB, zC, zD, zE, zF, zG, zH, zI, reduceCtorEq]
      repeat' apply And.intro
      all_goals try exact gB
      refine hL0 _ ⟨k + 1, ⟨by omega, fun j hj => (by
          by_cases hjk : j = k
          · subst hjk; exact recAt_yes (by omega) (by with_reducible assumption)
          · exact hall j (by omega))⟩, by omega, ?_⟩
      refine cov_of rfl ?_ ?_ ?_ <;> simp only [covS, covL, push_cast, ↓brB_true, ↓brB_false, ↓reduceIte, zA, zB, zC, zD, zE, zF, zG, zH, zI, reduceCtorEq]
    ·
      refine awp_exit ?_
      have hkk : k = r.length := by omega
      subst hkk
      (try simp only [AThen, ABlk, reduceIte, zF]); refine hK2 _ ?_
      refine awp_seq' fun K hK => ?_
      refine awp_region tyOk tyPos [] rfl ?_
      simp only [push_cast, ↓brB_true, ↓brB_false, ↓reduceIte, zA, zB, zC, zD, zE, zF, zG, zH, zI, reduceCtorEq]
      repeat' apply And.intro
      all_goals try exact gB
      all_goals first | (refine hK _ ?_; clear hK K) | (simp only [push_cast]; done)
      refine awp_ret ?_
      (try simp only [AThen, ABlk])
      refine ⟨Or.inl rfl, ?_⟩
      simp only [RetOk, push_cast, ↓brB_true, ↓brB_false, ↓reduceIte, zA, zB, zC, zD, zE, zF, zG, zH, zI, reduceCtorEq]
      exact (recB_yes (by omega) hall).symm
set_option maxRecDepth 20000 in
set_option maxHeartbeats 4000000 in
theorem canRecord_fn (ps : List Pr) (ha : PLn 1048576 ps) (r : List Int) (hr : r.length ≤ 1048576) (v : Int) : Fn Try.prog tyT 89 [.c (.lst 66 (dII (ilv ps))), .c (DI r), .c (.int .i64 v)] [.c (.bool (canB ps r v))] := by
  have hl := ha.1
  have hli := len_ilv ps
  refine Fn_of (fn := Try.f89) (ts := [6]) Try.func89 (by kernel_rfl) rfl rfl (by rw [Try.ntmps89]; exact Nat.le_of_ble_eq_true rfl) rfl (by simp only [szA, List.mem_cons, List.not_mem_nil, or_false, forall_eq_or_imp, forall_eq, VT.cells, szL]; try decide) ?_
  rw [Try.ntmps89]
  simp only [push_cast, ↓brB_true, ↓brB_false, ↓reduceIte, zA, zB, zC, zD, zE, zF, zG, zH, zI, reduceCtorEq]
  refine awp_seq' fun K hK => ?_
  refine awp_region tyOk tyPos [] rfl ?_
  simp only [push_cast, ↓brB_true, ↓brB_false, ↓reduceIte, zA, zB, zC, zD, zE, zF, zG, zH, zI, reduceCtorEq]
  repeat' apply And.intro
  all_goals try exact gB
  all_goals first | (refine hK _ ?_; clear hK K) | (simp only [push_cast]; done)
  refine awp_seq' fun K hK => ?_
  refine awp_regionN false tyOk tyPos ?_ rfl ?_
  · kernel_rfl
  all_goals refine seqE_cut 2 fun K9 hK9 => ?_
  all_goals simp only [push_cast, ↓brB_true, ↓brB_false, ↓reduceIte, zA, zB, zC, zD, zE, zF, zG, zH, zI, reduceCtorEq]
  all_goals repeat' (first | (apply brB_mk <;> (intro hg; (try simp only [push_cast] at hg))) | (refine ⟨_, arePairs_fn ps ha 256, ?_⟩; simp only [push_cast, ↓brB_true, ↓brB_false, ↓reduceIte, zA, zB, zC, zD, zE, zF, zG, zH, zI, reduceCtorEq]) | (refine ⟨_, isRecord_fn r hr ps.length, ?_⟩; simp only [push_cast, ↓brB_true, ↓brB_false, ↓reduceIte, zA, zB, zC, zD, zE, zF, zG, zH, zI, reduceCtorEq]) | apply And.intro | (intro hg; (try simp only [push_cast] at hg)))
  all_goals try exact gA
  all_goals first | (refine hK9 _ ?_; clear hK9 K9) | (simp only [push_cast]; done)
  all_goals refine seqE_cut 5 fun K9 hK9 => ?_
  all_goals simp only [push_cast, ↓brB_true, ↓brB_false, ↓reduceIte, zA, zB, zC, zD, zE, zF, zG, zH, zI, reduceCtorEq]
  all_goals repeat' (first | (apply brB_mk <;> (intro hg; (try simp only [push_cast] at hg))) | (refine ⟨_, arePairs_fn ps ha 256, ?_⟩; simp only [push_cast, ↓brB_true, ↓brB_false, ↓reduceIte, zA, zB, zC, zD, zE, zF, zG, zH, zI, reduceCtorEq]) | (refine ⟨_, isRecord_fn r hr ps.length, ?_⟩; simp only [push_cast, ↓brB_true, ↓brB_false, ↓reduceIte, zA, zB, zC, zD, zE, zF, zG, zH, zI, reduceCtorEq]) | apply And.intro | (intro hg; (try simp only [push_cast] at hg)))
  all_goals try exact gA
  all_goals first | (refine hK9 _ ?_; clear hK9 K9) | (simp only [push_cast]; done)
  all_goals simp only [push_cast, ↓brB_true, ↓brB_false, ↓reduceIte, zA, zB, zC, zD, zE, zF, zG, zH, zI, reduceCtorEq]
  all_goals repeat' (first | (apply brB_mk <;> (intro hg; (try simp only [push_cast] at hg))) | (refine ⟨_, arePairs_fn ps ha 256, ?_⟩; simp only [push_cast, ↓brB_true, ↓brB_false, ↓reduceIte, zA, zB, zC, zD, zE, zF, zG, zH, zI, reduceCtorEq]) | (refine ⟨_, isRecord_fn r hr ps.length, ?_⟩; simp only [push_cast, ↓brB_true, ↓brB_false, ↓reduceIte, zA, zB, zC, zD, zE, zF, zG, zH, zI, reduceCtorEq]) | apply And.intro | (intro hg; (try simp only [push_cast] at hg)))
  all_goals try exact gA
  all_goals first | (refine hK _ ?_; clear hK K) | (simp only [push_cast]; done)
  all_goals (
      refine awp_ret ?_
      (try simp only [AThen, ABlk])
      refine ⟨Or.inl rfl, ?_⟩
      simp only [RetOk, push_cast, ↓brB_true, ↓brB_false, ↓reduceIte, zA, zB, zC, zD, zE, zF, zG, zH, zI, reduceCtorEq]
      all_goals (unfold canB; simp [*]; try omega))
set_option maxRecDepth 20000 in
set_option maxHeartbeats 4000000 in
theorem l17Right_fn (ps : List Pr) (ha : PLn 1048576 ps) (r : List Int) (hr : r.length ≤ 1048576) (v : Int) : Fn Try.prog tyT 95 [.c (.lst 66 (dII (ilv ps))), .c (DI r), .c (.int .i64 v)] [.c (.bool (canB ps r v))] := by
  have hl := ha.1
  have hli := len_ilv ps
  have hpq := prsB_256 ps
  refine Fn_of (fn := Try.f95) (ts := [6]) Try.func95 (by kernel_rfl) rfl rfl (by rw [Try.ntmps95]; exact Nat.le_of_ble_eq_true rfl) rfl (by simp only [szA, List.mem_cons, List.not_mem_nil, or_false, forall_eq_or_imp, forall_eq, VT.cells, szL]; try decide) ?_
  rw [Try.ntmps95]
  simp only [push_cast, ↓brB_true, ↓brB_false, ↓reduceIte, zA, zB, zC, zD, zE, zF, zG, zH, zI, reduceCtorEq]
  refine awp_seq' fun K hK => ?_
  refine awp_region tyOk tyPos [] rfl ?_
  simp only [push_cast, ↓brB_true, ↓brB_false, ↓reduceIte, zA, zB, zC, zD, zE, zF, zG, zH, zI, reduceCtorEq]
  repeat' apply And.intro
  all_goals try exact gB
  all_goals first | (refine hK _ ?_; clear hK K) | (simp only [push_cast]; done)
  refine awp_seq' fun K hK => ?_
  refine awp_regionN false tyOk tyPos ?_ rfl ?_
  · kernel_rfl
  all_goals refine seqE_cut 2 fun K9 hK9 => ?_
  all_goals simp only [push_cast, ↓brB_true, ↓brB_false, ↓reduceIte, zA, zB, zC, zD, zE, zF, zG, zH, zI, reduceCtorEq]
  all_goals repeat' (first | (apply brB_mk <;> (intro hg; (try simp only [push_cast] at hg))) | (refine ⟨_, PairsOkS_fn ps ha 256, ?_⟩; simp only [push_cast, ↓brB_true, ↓brB_false, ↓reduceIte, zA, zB, zC, zD, zE, zF, zG, zH, zI, reduceCtorEq]) | (refine ⟨_, RecordOkS_fn r hr ps.length, ?_⟩; simp only [push_cast, ↓brB_true, ↓brB_false, ↓reduceIte, zA, zB, zC, zD, zE, zF, zG, zH, zI, reduceCtorEq]) | (refine ⟨_, l1In_fn v 0 255, ?_⟩; simp only [push_cast, ↓brB_true, ↓brB_false, ↓reduceIte, zA, zB, zC, zD, zE, zF, zG, zH, zI, reduceCtorEq]) | apply And.intro | (intro hg; (try simp only [push_cast] at hg)))
  all_goals try exact gA
  all_goals first | (refine hK9 _ ?_; clear hK9 K9) | (simp only [push_cast]; done)
  all_goals refine seqE_cut 5 fun K9 hK9 => ?_
  all_goals simp only [push_cast, ↓brB_true, ↓brB_false, ↓reduceIte, zA, zB, zC, zD, zE, zF, zG, zH, zI, reduceCtorEq]
  all_goals repeat' (first | (apply brB_mk <;> (intro hg; (try simp only [push_cast] at hg))) | (refine ⟨_, PairsOkS_fn ps ha 256, ?_⟩; simp only [push_cast, ↓brB_true, ↓brB_false, ↓reduceIte, zA, zB, zC, zD, zE, zF, zG, zH, zI, reduceCtorEq]) | (refine ⟨_, RecordOkS_fn r hr ps.length, ?_⟩; simp only [push_cast, ↓brB_true, ↓brB_false, ↓reduceIte, zA, zB, zC, zD, zE, zF, zG, zH, zI, reduceCtorEq]) | (refine ⟨_, l1In_fn v 0 255, ?_⟩; simp only [push_cast, ↓brB_true, ↓brB_false, ↓reduceIte, zA, zB, zC, zD, zE, zF, zG, zH, zI, reduceCtorEq]) | apply And.intro | (intro hg; (try simp only [push_cast] at hg)))
  all_goals try exact gA
  all_goals first | (refine hK9 _ ?_; clear hK9 K9) | (simp only [push_cast]; done)
  all_goals refine seqE_cut 4 fun K9 hK9 => ?_
  all_goals simp only [push_cast, ↓brB_true, ↓brB_false, ↓reduceIte, zA, zB, zC, zD, zE, zF, zG, zH, zI, reduceCtorEq]
  all_goals repeat' (first | (apply brB_mk <;> (intro hg; (try simp only [push_cast] at hg))) | (refine ⟨_, PairsOkS_fn ps ha 256, ?_⟩; simp only [push_cast, ↓brB_true, ↓brB_false, ↓reduceIte, zA, zB, zC, zD, zE, zF, zG, zH, zI, reduceCtorEq]) | (refine ⟨_, RecordOkS_fn r hr ps.length, ?_⟩; simp only [push_cast, ↓brB_true, ↓brB_false, ↓reduceIte, zA, zB, zC, zD, zE, zF, zG, zH, zI, reduceCtorEq]) | (refine ⟨_, l1In_fn v 0 255, ?_⟩; simp only [push_cast, ↓brB_true, ↓brB_false, ↓reduceIte, zA, zB, zC, zD, zE, zF, zG, zH, zI, reduceCtorEq]) | apply And.intro | (intro hg; (try simp only [push_cast] at hg)))
  all_goals try exact gA
  all_goals first | (refine hK9 _ ?_; clear hK9 K9) | (simp only [push_cast]; done)
  all_goals simp only [push_cast, ↓brB_true, ↓brB_false, ↓reduceIte, zA, zB, zC, zD, zE, zF, zG, zH, zI, reduceCtorEq]
  all_goals repeat' (first | (apply brB_mk <;> (intro hg; (try simp only [push_cast] at hg))) | (refine ⟨_, PairsOkS_fn ps ha 256, ?_⟩; simp only [push_cast, ↓brB_true, ↓brB_false, ↓reduceIte, zA, zB, zC, zD, zE, zF, zG, zH, zI, reduceCtorEq]) | (refine ⟨_, RecordOkS_fn r hr ps.length, ?_⟩; simp only [push_cast, ↓brB_true, ↓brB_false, ↓reduceIte, zA, zB, zC, zD, zE, zF, zG, zH, zI, reduceCtorEq]) | (refine ⟨_, l1In_fn v 0 255, ?_⟩; simp only [push_cast, ↓brB_true, ↓brB_false, ↓reduceIte, zA, zB, zC, zD, zE, zF, zG, zH, zI, reduceCtorEq]) | apply And.intro | (intro hg; (try simp only [push_cast] at hg)))
  all_goals try exact gA
  all_goals first | (refine hK _ ?_; clear hK K) | (simp only [push_cast]; done)
  all_goals (
      refine awp_ret ?_
      (try simp only [AThen, ABlk])
      refine ⟨Or.inl rfl, ?_⟩
      simp only [RetOk, push_cast, ↓brB_true, ↓brB_false, ↓reduceIte, zA, zB, zC, zD, zE, zF, zG, zH, zI, reduceCtorEq]
      all_goals (unfold canB; rw [← hpq]; clear hpq; simp [*]; try first | omega | (rw [Bool.eq_iff_iff]; simp; omega)))
end Go.Proofs.Ytdbecmmeifdafaa

namespace Go.Proofs.Ytdbecmmeifdafaa
open Nat renaming reduceMod → zA, reduceMul → zB, reduceDiv → zC, reduceAdd → zD, reduceSub → zE, reduceEqDiff → zF, reduceBEq → zG, reduceLT → zH, reduceLeDiff → zI
open Go.RowKit
set_option linter.unusedVariables false
set_option linter.unusedSimpArgs false

attribute [-push_cast] rm
def gvP (ps : List Pr) (v x : Int) : Bool := hasB (gp ps x.toNat).give v
def nxL (ps : List Pr) (r : List Int) (v : Int) : List Int := nrF ps r v r.length ++ nrR ps r v r.length
theorem tk_s {r : List Int} {k : Nat} (h : k < r.length) : r.take (k + 1) = r.take k ++ [gi r k] := by
  rw [List.take_succ_eq_append_getElem h]
  unfold gi
  rw [List.getD_eq_getElem?_getD, List.getElem?_eq_getElem h]
  rfl
theorem nrF_take (ps : List Pr) (r : List Int) (v : Int) : ∀ k, k ≤ r.length → nrF ps r v k = (r.take k).filter (gvP ps v)
  | 0, _ => by rw [List.take_zero]; rfl
  | k + 1, h => by
    have ih := nrF_take ps r v k (by omega)
    rw [tk_s (by omega), List.filter_append]
    cases hb : gvB ps r v k with
    | true => rw [nrF_yes hb, ih, List.filter_cons, if_pos (show gvP ps v (gi r k) = true from hb)]; rfl
    | false => rw [nrF_no hb, ih, List.filter_cons, if_neg (show ¬ gvP ps v (gi r k) = true from (by rw [show gvP ps v (gi r k) = false from hb]; decide))]; simp
theorem nrR_take (ps : List Pr) (r : List Int) (v : Int) : ∀ k, k ≤ r.length → nrR ps r v k = (r.take k).filter (fun x => !gvP ps v x)
  | 0, _ => by rw [List.take_zero]; rfl
  | k + 1, h => by
    have ih := nrR_take ps r v k (by omega)
    rw [tk_s (by omega), List.filter_append]
    cases hb : gvB ps r v k with
    | true => rw [nrR_yes hb, ih, List.filter_cons, if_neg (show ¬ (!gvP ps v (gi r k)) = true from (by rw [show gvP ps v (gi r k) = true from hb]; decide))]; simp
    | false => rw [nrR_no hb, ih, List.filter_cons, if_pos (show (!gvP ps v (gi r k)) = true from (by rw [show gvP ps v (gi r k) = false from hb]; rfl))]; rfl
theorem nxL_eq (ps : List Pr) (r : List Int) (v : Int) : nxL ps r v = r.filter (gvP ps v) ++ r.filter (fun x => !gvP ps v x) := by
  unfold nxL
  rw [nrF_take ps r v _ (Nat.le_refl _), nrR_take ps r v _ (Nat.le_refl _), List.take_length]
theorem nxL_perm (ps : List Pr) (r : List Int) (v : Int) : (nxL ps r v).Perm r := by
  rw [nxL_eq]
  exact List.filter_append_perm _ _
theorem nxL_len (ps : List Pr) (r : List Int) (v : Int) : (nxL ps r v).length = r.length := (nxL_perm ps r v).length_eq
theorem nxL_again (ps : List Pr) (r : List Int) (v : Int) : nxL ps (nxL ps r v) v = nxL ps r v := by
  rw [nxL_eq ps (nxL ps r v) v, nxL_eq ps r v]
  simp only [List.filter_append, List.filter_filter]
  have h1 : ∀ x, (gvP ps v x && gvP ps v x) = gvP ps v x := fun x => Bool.and_self _
  have h2 : ∀ x, (gvP ps v x && !gvP ps v x) = false := fun x => Bool.and_not_self _
  have h3 : ∀ x, ((!gvP ps v x) && gvP ps v x) = false := fun x => Bool.not_and_self _
  have h4 : ∀ x, ((!gvP ps v x) && (!gvP ps v x)) = !gvP ps v x := fun x => Bool.and_self _
  have h5 : ∀ l : List Int, l.filter (fun _ => false) = [] := fun l => by
    induction l with
    | nil => rfl
    | cons a l ih => exact ih
  simp only [h1, h2, h3, h4, h5, List.nil_append, List.append_nil]
theorem gi_mem {r : List Int} {i : Nat} (h : i < r.length) : gi r i ∈ r := by
  unfold gi
  rw [List.getD_eq_getElem?_getD, List.getElem?_eq_getElem h]
  exact List.getElem_mem h
theorem mem_gi {r : List Int} {x : Int} (h : x ∈ r) : ∃ i, i < r.length ∧ gi r i = x := by
  obtain ⟨i, hi, e⟩ := List.mem_iff_getElem.1 h
  refine ⟨i, hi, ?_⟩
  unfold gi
  rw [List.getD_eq_getElem?_getD, List.getElem?_eq_getElem hi]
  exact e
theorem gi_getE {r : List Int} {i : Nat} (h : i < r.length) : gi r i = r[i] := by
  unfold gi
  rw [List.getD_eq_getElem?_getD, List.getElem?_eq_getElem h]
  rfl
theorem rec_nodup {r : List Int} {n : Int} (h : recB r n = true) : ((0 ≤ n ∧ n ≤ 4) ∧ (r.length : Int) = n) ∧ (∀ x ∈ r, 0 ≤ x ∧ x < n) ∧ r.Nodup := by
  have hf := rec_facts h
  refine ⟨hf.1, fun x hx => ?_, ?_⟩
  · obtain ⟨i, hi, rfl⟩ := mem_gi hx
    exact (hf.2 i hi).1
  · rw [List.Nodup, List.pairwise_iff_getElem]
    intro i j hi hj hij
    rw [← gi_getE hi, ← gi_getE hj]
    exact (hf.2 j hj).2 i hij
theorem rec_of {r : List Int} {n : Int} (h1 : (0 ≤ n ∧ n ≤ 4) ∧ (r.length : Int) = n) (h2 : ∀ x ∈ r, 0 ≤ x ∧ x < n) (h3 : r.Nodup) : recB r n = true := by
  refine recB_yes h1 fun i hi => recAt_yes (h2 _ (gi_mem hi)) ?_
  cases hb : hasB (r.take i) (gi r i) with
  | false => rfl
  | true =>
    obtain ⟨j, hj, e⟩ := hasB_ix.1 hb
    rw [List.length_take] at hj
    rw [gi_tk (by omega), gi_getE (by omega), gi_getE hi] at e
    have := (List.pairwise_iff_getElem.1 h3) j i (by omega) hi (by omega)
    exact absurd e this
theorem rec_next {ps : List Pr} {r : List Int} {n v : Int} (h : recB r n = true) : recB (nxL ps r v) n = true := by
  have hf := rec_nodup h
  have hp := nxL_perm ps r v
  refine rec_of ⟨hf.1.1, ?_⟩ (fun x hx => hf.2.1 x (hp.mem_iff.1 hx)) (hp.nodup_iff.2 hf.2.2)
  rw [hp.length_eq]
  exact hf.1.2
theorem pg_le : ∀ (n : Nat) (r : List Int), r.Nodup → (∀ x ∈ r, 0 ≤ x ∧ x < (n : Int)) → r.length ≤ n
  | 0, r, _, h => by
    cases r with
    | nil => exact Nat.le_refl _
    | cons x r => have := h x (List.mem_cons_self ..); omega
  | n + 1, r, hd, h => by
    have h1 := pg_le n (r.erase (n : Int)) (hd.erase _) (fun x hx => by
      have h2 := (hd.mem_erase_iff).1 hx
      have h3 := h x h2.2
      have h4 := h2.1
      omega)
    have h2 := List.length_erase (a := (n : Int)) (l := r)
    split at h2 <;> omega
theorem pg_perm : ∀ (n : Nat) (r : List Int), r.Nodup → (∀ x ∈ r, 0 ≤ x ∧ x < (n : Int)) → r.length = n → r.Perm ((List.range n).map Int.ofNat)
  | 0, r, _, _, hl => by rw [List.eq_nil_of_length_eq_zero hl]; exact List.Perm.refl _
  | n + 1, r, hd, h, hl => by
    have hm : (n : Int) ∈ r := by
      rcases Classical.em ((n : Int) ∈ r) with hm | hm
      · exact hm
      · have := pg_le n r hd (fun x hx => by
          have h3 := h x hx
          have h4 : x ≠ (n : Int) := fun e => hm (e ▸ hx)
          omega)
        omega
    have h1 := pg_perm n (r.erase (n : Int)) (hd.erase _) (fun x hx => by
      have h2 := (hd.mem_erase_iff).1 hx
      have h3 := h x h2.2
      have h4 := h2.1
      omega) (by rw [List.length_erase_of_mem hm]; omega)
    rw [List.range_succ, List.map_append]
    exact ((List.perm_cons_erase hm).trans (h1.cons _)).trans (List.perm_append_singleton _ _).symm
def gcN (ps : List Pr) (v : Int) : Nat → Nat
  | 0 => 0
  | k + 1 => if hasB (gp ps k).give v = true then gcN ps v k + 1 else gcN ps v k
theorem gcN_yes {ps : List Pr} {v : Int} {k : Nat} (h : hasB (gp ps k).give v = true) : gcN ps v (k + 1) = gcN ps v k + 1 := if_pos h
theorem gcN_no {ps : List Pr} {v : Int} {k : Nat} (h : hasB (gp ps k).give v = false) : gcN ps v (k + 1) = gcN ps v k := if_neg (by rw [h]; decide)
theorem gcN_le (ps : List Pr) (v : Int) : ∀ k, gcN ps v k ≤ k
  | 0 => Nat.le_refl _
  | k + 1 => by
    have := gcN_le ps v k
    unfold gcN
    split <;> omega
theorem gcN_eq (ps : List Pr) (v : Int) : ∀ k, (((List.range k).map Int.ofNat).filter (gvP ps v)).length = gcN ps v k
  | 0 => rfl
  | k + 1 => by
    have ih := gcN_eq ps v k
    rw [List.range_succ, List.map_append, List.filter_append, List.length_append, ih]
    cases hb : hasB (gp ps k).give v with
    | true => rw [gcN_yes hb, List.map_singleton, List.filter_cons, if_pos (show gvP ps v (Int.ofNat k) = true from hb)]; rfl
    | false => rw [gcN_no hb, List.map_singleton, List.filter_cons, if_neg (show ¬ gvP ps v (Int.ofNat k) = true from (by rw [show gvP ps v (Int.ofNat k) = false from hb]; decide))]; rfl
theorem gcN_rec {ps : List Pr} {r : List Int} {v : Int} {m : Nat} (h : recB r (m : Int) = true) : (r.filter (gvP ps v)).length = gcN ps v m := by
  have hf := rec_nodup h
  rw [← gcN_eq]
  exact ((pg_perm m r hf.2.2 hf.2.1 (by omega)).filter _).length_eq
theorem nxL_has {ps : List Pr} {r : List Int} {v : Int} {m i : Nat} (h : recB r (m : Int) = true) (hi : i < r.length) : hasB (gp ps (gi (nxL ps r v) i).toNat).give v = decide (i < gcN ps v m) := by
  show gvP ps v (gi (nxL ps r v) i) = _
  rw [← gcN_rec h, gi_getE (by rw [nxL_len]; exact hi), Bool.eq_iff_iff, decide_eq_true_eq]
  simp only [nxL_eq]
  rw [List.getElem_append]
  split
  · rename_i hlt
    exact ⟨fun _ => hlt, fun _ => (List.mem_filter.1 (List.getElem_mem hlt)).2⟩
  · rename_i hge
    have hm := (List.mem_filter.1 (List.getElem_mem (l := r.filter (fun x => !gvP ps v x)) (n := i - (r.filter (gvP ps v)).length) (by
      have h1 := nxL_len ps r v
      rw [nxL_eq, List.length_append] at h1
      omega))).2
    rw [Bool.not_eq_true'] at hm
    rw [hm]
    exact ⟨fun h => (by cases h), fun h => absurd h hge⟩
theorem nxL_rg {ps : List Pr} {r : List Int} {n v : Int} {i : Nat} (h : recB r n = true) (hi : i < r.length) : 0 ≤ gi (nxL ps r v) i ∧ gi (nxL ps r v) i < n :=
  (rec_nodup h).2.1 _ ((nxL_perm ps r v).mem_iff.1 (gi_mem (by rw [nxL_len]; exact hi)))
def prioV (ps : List Pr) (r : List Int) (v : Int) : Int := prV (akI ps r v r.length) (gvI ps r v r.length)
theorem prioV_le (ps : List Pr) (r : List Int) (v : Int) : -1 < prioV ps r v ∧ prioV ps r v ≤ 2 * r.length := by
  have h1 := akI_rg ps r v r.length
  have h2 := gvI_rg ps r v r.length
  unfold prioV prV
  split
  · omega
  · split <;> omega
attribute [irreducible] nxL gcN prioV
def nxC (ps : List Pr) (r : List Int) (v : Int) : List Int := if canB ps r v = true then nxL ps r v else []
def prC (ps : List Pr) (r : List Int) (v : Int) : Int := if canB ps r v = true then prioV ps r v else -1
theorem nxC_yes {ps : List Pr} {r : List Int} {v : Int} (h : canB ps r v = true) : nxC ps r v = nxL ps r v := if_pos h
theorem nxC_no {ps : List Pr} {r : List Int} {v : Int} (h : canB ps r v = false) : nxC ps r v = [] := if_neg (by rw [h]; decide)
theorem prC_yes {ps : List Pr} {r : List Int} {v : Int} (h : canB ps r v = true) : prC ps r v = prioV ps r v := if_pos h
theorem prC_no {ps : List Pr} {r : List Int} {v : Int} (h : canB ps r v = false) : prC ps r v = -1 := if_neg (by rw [h]; decide)
theorem nextL_fn (ps : List Pr) (ha : PLn 1048576 ps) (r : List Int) (v : Int) (h : canB ps r v = true) : Fn Try.prog tyT 90 [.c (.lst 66 (dII (ilv ps))), .c (DI r), .c (.int .i64 v)] [.c (DI (nxL ps r v))] := by
  have hf := rec_facts (can_facts h).2.1
  have h1 := nextRecI_fn ps ha r (by omega) (fun i hi => (hf.2 i hi).1) v
  unfold nxL
  exact h1
theorem prioLI_fn (ps : List Pr) (ha : PLn 1048576 ps) (r : List Int) (v : Int) (h : canB ps r v = true) : Fn Try.prog tyT 91 [.c (.lst 66 (dII (ilv ps))), .c (DI r), .c (.int .i64 v)] [.c (.int .i64 (prioV ps r v))] := by
  have hf := rec_facts (can_facts h).2.1
  have h1 := recPrioI_fn ps ha r (by omega) (fun i hi => (hf.2 i hi).1) v
  unfold prioV
  exact h1
theorem prioLS_fn (ps : List Pr) (ha : PLn 1048576 ps) (r : List Int) (v : Int) (h : canB ps r v = true) : Fn Try.prog tyT 96 [.c (.lst 66 (dII (ilv ps))), .c (DI r), .c (.int .i64 v)] [.c (.int .i64 (prioV ps r v))] := by
  have hf := rec_facts (can_facts h).2.1
  have h1 := l17Prio_fn ps ha r (by omega) (fun i hi => (hf.2 i hi).1) v
  unfold prioV
  exact h1
set_option maxRecDepth 20000 in
set_option maxHeartbeats 4000000 in
theorem NextRecordI_fn (ps : List Pr) (ha : PLn 1048576 ps) (r : List Int) (hr : r.length ≤ 1048576) (v : Int) : Fn Try.prog tyT 36 [.c (.lst 66 (dII (ilv ps))), .c (DI r), .c (.int .i64 v)] [.c (DI (nxC ps r v))] := by
  refine Fn_of (fn := Try.f36) (ts := [6]) Try.func36 (by kernel_rfl) rfl rfl (by rw [Try.ntmps36]; exact Nat.le_of_ble_eq_true rfl) rfl (by simp only [szA, List.mem_cons, List.not_mem_nil, or_false, forall_eq_or_imp, forall_eq, VT.cells, szL]; try decide) ?_
  rw [Try.ntmps36]
  simp only [push_cast, ↓brB_true, ↓brB_false, ↓reduceIte, zA, zB, zC, zD, zE, zF, zG, zH, zI, reduceCtorEq]
  refine awp_seq' fun K hK => ?_
  refine awp_region tyOk tyPos [] rfl ?_
  simp only [push_cast, ↓brB_true, ↓brB_false, ↓reduceIte, zA, zB, zC, zD, zE, zF, zG, zH, zI, reduceCtorEq]
  repeat' apply And.intro
  all_goals try exact gB
  all_goals first | (refine hK _ ?_; clear hK K) | (simp only [push_cast]; done)
  refine awp_seq' fun K1 hK1 => ?_
  refine awp_seq' fun K hK => ?_
  refine awp_region tyOk tyPos [] rfl ?_
  all_goals refine aops_cut 4 fun K9 hK9 => ?_
  all_goals simp only [push_cast, ↓brB_true, ↓brB_false, ↓reduceIte, zA, zB, zC, zD, zE, zF, zG, zH, zI, reduceCtorEq]
  all_goals repeat' (first | (apply brB_mk <;> (intro hg; (try simp only [push_cast] at hg))) | (refine ⟨_, canRecord_fn ps ha r hr v, ?_⟩; simp only [push_cast, ↓brB_true, ↓brB_false, ↓reduceIte, zA, zB, zC, zD, zE, zF, zG, zH, zI, reduceCtorEq]) | apply And.intro | (intro hg; (try simp only [push_cast] at hg)))
  all_goals try exact gA
  all_goals first | (refine hK9 _ ?_; clear hK9 K9) | (simp only [push_cast]; done)
  all_goals simp only [push_cast, ↓brB_true, ↓brB_false, ↓reduceIte, zA, zB, zC, zD, zE, zF, zG, zH, zI, reduceCtorEq]
  all_goals repeat' (first | (apply brB_mk <;> (intro hg; (try simp only [push_cast] at hg))) | (refine ⟨_, canRecord_fn ps ha r hr v, ?_⟩; simp only [push_cast, ↓brB_true, ↓brB_false, ↓reduceIte, zA, zB, zC, zD, zE, zF, zG, zH, zI, reduceCtorEq]) | apply And.intro | (intro hg; (try simp only [push_cast] at hg)))
  all_goals try exact gA
  all_goals first | (refine hK _ ?_; clear hK K) | (simp only [push_cast]; done)
  refine awp_cond rfl (fun hc => ?_) (fun hc => ?_) <;> (try simp only [push_cast] at hc)
  ·
    refine awp_seq' fun K hK => ?_
    refine awp_region tyOk tyPos [] rfl ?_
    simp only [push_cast, ↓brB_true, ↓brB_false, ↓reduceIte, zA, zB, zC, zD, zE, zF, zG, zH, zI, reduceCtorEq]
    repeat' apply And.intro
    all_goals try exact gB
    all_goals first | (refine hK _ ?_; clear hK K) | (simp only [push_cast]; done)
    refine awp_ret ?_
    (try simp only [AThen, ABlk])
    refine ⟨Or.inl rfl, ?_⟩
    simp only [RetOk, push_cast, ↓brB_true, ↓brB_false, ↓reduceIte, zA, zB, zC, zD, zE, zF, zG, zH, zI, reduceCtorEq]
    rw [nxC_no (by with_reducible assumption)]
    all_goals first | rfl | exact ⟨rfl, rfl⟩ | skip
  ·
    refine awp_skip ?_
    (try simp only [AThen, ABlk, reduceIte, zF]); refine hK1 _ ?_
    refine awp_seq' fun K hK => ?_
    refine awp_region tyOk tyPos [] rfl ?_
    all_goals refine aops_cut 4 fun K9 hK9 => ?_
    all_goals simp only [push_cast, ↓brB_true, ↓brB_false, ↓reduceIte, zA, zB, zC, zD, zE, zF, zG, zH, zI, reduceCtorEq]
    all_goals repeat' (first | (apply brB_mk <;> (intro hg; (try simp only [push_cast] at hg))) | (refine ⟨_, nextL_fn ps ha r v (by with_reducible assumption), ?_⟩; simp only [push_cast, ↓brB_true, ↓brB_false, ↓reduceIte, zA, zB, zC, zD, zE, zF, zG, zH, zI, reduceCtorEq]) | apply And.intro | (intro hg; (try simp only [push_cast] at hg)))
    all_goals try exact gA
    all_goals first | (refine hK9 _ ?_; clear hK9 K9) | (simp only [push_cast]; done)
    all_goals simp only [push_cast, ↓brB_true, ↓brB_false, ↓reduceIte, zA, zB, zC, zD, zE, zF, zG, zH, zI, reduceCtorEq]
    all_goals repeat' (first | (apply brB_mk <;> (intro hg; (try simp only [push_cast] at hg))) | (refine ⟨_, nextL_fn ps ha r v (by with_reducible assumption), ?_⟩; simp only [push_cast, ↓brB_true, ↓brB_false, ↓reduceIte, zA, zB, zC, zD, zE, zF, zG, zH, zI, reduceCtorEq]) | apply And.intro | (intro hg; (try simp only [push_cast] at hg)))
    all_goals try exact gA
    all_goals first | (refine hK _ ?_; clear hK K) | (simp only [push_cast]; done)
    refine awp_ret ?_
    (try simp only [AThen, ABlk])
    refine ⟨Or.inl rfl, ?_⟩
    simp only [RetOk, push_cast, ↓brB_true, ↓brB_false, ↓reduceIte, zA, zB, zC, zD, zE, zF, zG, zH, zI, reduceCtorEq]
    rw [nxC_yes (by with_reducible assumption)]
    all_goals first | rfl | exact ⟨rfl, rfl⟩ | skip
set_option maxRecDepth 20000 in
set_option maxHeartbeats 4000000 in
theorem RecordPrioI_fn (ps : List Pr) (ha : PLn 1048576 ps) (r : List Int) (hr : r.length ≤ 1048576) (v : Int) : Fn Try.prog tyT 37 [.c (.lst 66 (dII (ilv ps))), .c (DI r), .c (.int .i64 v)] [.c (.int .i64 (prC ps r v))] := by
  refine Fn_of (fn := Try.f37) (ts := [6]) Try.func37 (by kernel_rfl) rfl rfl (by rw [Try.ntmps37]; exact Nat.le_of_ble_eq_true rfl) rfl (by simp only [szA, List.mem_cons, List.not_mem_nil, or_false, forall_eq_or_imp, forall_eq, VT.cells, szL]; try decide) ?_
  rw [Try.ntmps37]
  simp only [push_cast, ↓brB_true, ↓brB_false, ↓reduceIte, zA, zB, zC, zD, zE, zF, zG, zH, zI, reduceCtorEq]
  refine awp_seq' fun K hK => ?_
  refine awp_region tyOk tyPos [] rfl ?_
  simp only [push_cast, ↓brB_true, ↓brB_false, ↓reduceIte, zA, zB, zC, zD, zE, zF, zG, zH, zI, reduceCtorEq]
  repeat' apply And.intro
  all_goals try exact gB
  all_goals first | (refine hK _ ?_; clear hK K) | (simp only [push_cast]; done)
  refine awp_seq' fun K1 hK1 => ?_
  refine awp_seq' fun K hK => ?_
  refine awp_region tyOk tyPos [] rfl ?_
  all_goals refine aops_cut 4 fun K9 hK9 => ?_
  all_goals simp only [push_cast, ↓brB_true, ↓brB_false, ↓reduceIte, zA, zB, zC, zD, zE, zF, zG, zH, zI, reduceCtorEq]
  all_goals repeat' (first | (apply brB_mk <;> (intro hg; (try simp only [push_cast] at hg))) | (refine ⟨_, canRecord_fn ps ha r hr v, ?_⟩; simp only [push_cast, ↓brB_true, ↓brB_false, ↓reduceIte, zA, zB, zC, zD, zE, zF, zG, zH, zI, reduceCtorEq]) | apply And.intro | (intro hg; (try simp only [push_cast] at hg)))
  all_goals try exact gA
  all_goals first | (refine hK9 _ ?_; clear hK9 K9) | (simp only [push_cast]; done)
  all_goals simp only [push_cast, ↓brB_true, ↓brB_false, ↓reduceIte, zA, zB, zC, zD, zE, zF, zG, zH, zI, reduceCtorEq]
  all_goals repeat' (first | (apply brB_mk <;> (intro hg; (try simp only [push_cast] at hg))) | (refine ⟨_, canRecord_fn ps ha r hr v, ?_⟩; simp only [push_cast, ↓brB_true, ↓brB_false, ↓reduceIte, zA, zB, zC, zD, zE, zF, zG, zH, zI, reduceCtorEq]) | apply And.intro | (intro hg; (try simp only [push_cast] at hg)))
  all_goals try exact gA
  all_goals first | (refine hK _ ?_; clear hK K) | (simp only [push_cast]; done)
  refine awp_cond rfl (fun hc => ?_) (fun hc => ?_) <;> (try simp only [push_cast] at hc)
  ·
    refine awp_seq' fun K hK => ?_
    refine awp_region tyOk tyPos [] rfl ?_
    simp only [push_cast, ↓brB_true, ↓brB_false, ↓reduceIte, zA, zB, zC, zD, zE, zF, zG, zH, zI, reduceCtorEq]
    repeat' apply And.intro
    all_goals try exact gB
    all_goals first | (refine hK _ ?_; clear hK K) | (simp only [push_cast]; done)
    refine awp_ret ?_
    (try simp only [AThen, ABlk])
    refine ⟨Or.inl rfl, ?_⟩
    simp only [RetOk, push_cast, ↓brB_true, ↓brB_false, ↓reduceIte, zA, zB, zC, zD, zE, zF, zG, zH, zI, reduceCtorEq]
    rw [prC_no (by with_reducible assumption)]
  ·
    refine awp_skip ?_
    (try simp only [AThen, ABlk, reduceIte, zF]); refine hK1 _ ?_
    refine awp_seq' fun K hK => ?_
    refine awp_region tyOk tyPos [] rfl ?_
    all_goals refine aops_cut 4 fun K9 hK9 => ?_
    all_goals simp only [push_cast, ↓brB_true, ↓brB_false, ↓reduceIte, zA, zB, zC, zD, zE, zF, zG, zH, zI, reduceCtorEq]
    all_goals repeat' (first | (apply brB_mk <;> (intro hg; (try simp only [push_cast] at hg))) | (refine ⟨_, prioLI_fn ps ha r v (by with_reducible assumption), ?_⟩; simp only [push_cast, ↓brB_true, ↓brB_false, ↓reduceIte, zA, zB, zC, zD, zE, zF, zG, zH, zI, reduceCtorEq]) | apply And.intro | (intro hg; (try simp only [push_cast] at hg)))
    all_goals try exact gA
    all_goals first | (refine hK9 _ ?_; clear hK9 K9) | (simp only [push_cast]; done)
    all_goals simp only [push_cast, ↓brB_true, ↓brB_false, ↓reduceIte, zA, zB, zC, zD, zE, zF, zG, zH, zI, reduceCtorEq]
    all_goals repeat' (first | (apply brB_mk <;> (intro hg; (try simp only [push_cast] at hg))) | (refine ⟨_, prioLI_fn ps ha r v (by with_reducible assumption), ?_⟩; simp only [push_cast, ↓brB_true, ↓brB_false, ↓reduceIte, zA, zB, zC, zD, zE, zF, zG, zH, zI, reduceCtorEq]) | apply And.intro | (intro hg; (try simp only [push_cast] at hg)))
    all_goals try exact gA
    all_goals first | (refine hK _ ?_; clear hK K) | (simp only [push_cast]; done)
    refine awp_ret ?_
    (try simp only [AThen, ABlk])
    refine ⟨Or.inl rfl, ?_⟩
    simp only [RetOk, push_cast, ↓brB_true, ↓brB_false, ↓reduceIte, zA, zB, zC, zD, zE, zF, zG, zH, zI, reduceCtorEq]
    rw [prC_yes (by with_reducible assumption)]
set_option maxRecDepth 20000 in
set_option maxHeartbeats 4000000 in
theorem RecordPrioS_fn (ps : List Pr) (ha : PLn 1048576 ps) (r : List Int) (hr : r.length ≤ 1048576) (v : Int) : Fn Try.prog tyT 42 [.c (.lst 66 (dII (ilv ps))), .c (DI r), .c (.int .i64 v)] [.c (.int .i64 (prC ps r v))] := by
  refine Fn_of (fn := Try.f42) (ts := [6]) Try.func42 (by kernel_rfl) rfl rfl (by rw [Try.ntmps42]; exact Nat.le_of_ble_eq_true rfl) rfl (by simp only [szA, List.mem_cons, List.not_mem_nil, or_false, forall_eq_or_imp, forall_eq, VT.cells, szL]; try decide) ?_
  rw [Try.ntmps42]
  simp only [push_cast, ↓brB_true, ↓brB_false, ↓reduceIte, zA, zB, zC, zD, zE, zF, zG, zH, zI, reduceCtorEq]
  refine awp_seq' fun K hK => ?_
  refine awp_region tyOk tyPos [] rfl ?_
  simp only [push_cast, ↓brB_true, ↓brB_false, ↓reduceIte, zA, zB, zC, zD, zE, zF, zG, zH, zI, reduceCtorEq]
  repeat' apply And.intro
  all_goals try exact gB
  all_goals first | (refine hK _ ?_; clear hK K) | (simp only [push_cast]; done)
  refine awp_seq' fun K1 hK1 => ?_
  refine awp_seq' fun K hK => ?_
  refine awp_region tyOk tyPos [] rfl ?_
  all_goals refine aops_cut 4 fun K9 hK9 => ?_
  all_goals simp only [push_cast, ↓brB_true, ↓brB_false, ↓reduceIte, zA, zB, zC, zD, zE, zF, zG, zH, zI, reduceCtorEq]
  all_goals repeat' (first | (apply brB_mk <;> (intro hg; (try simp only [push_cast] at hg))) | (refine ⟨_, l17Right_fn ps ha r hr v, ?_⟩; simp only [push_cast, ↓brB_true, ↓brB_false, ↓reduceIte, zA, zB, zC, zD, zE, zF, zG, zH, zI, reduceCtorEq]) | apply And.intro | (intro hg; (try simp only [push_cast] at hg)))
  all_goals try exact gA
  all_goals first | (refine hK9 _ ?_; clear hK9 K9) | (simp only [push_cast]; done)
  all_goals simp only [push_cast, ↓brB_true, ↓brB_false, ↓reduceIte, zA, zB, zC, zD, zE, zF, zG, zH, zI, reduceCtorEq]
  all_goals repeat' (first | (apply brB_mk <;> (intro hg; (try simp only [push_cast] at hg))) | (refine ⟨_, l17Right_fn ps ha r hr v, ?_⟩; simp only [push_cast, ↓brB_true, ↓brB_false, ↓reduceIte, zA, zB, zC, zD, zE, zF, zG, zH, zI, reduceCtorEq]) | apply And.intro | (intro hg; (try simp only [push_cast] at hg)))
  all_goals try exact gA
  all_goals first | (refine hK _ ?_; clear hK K) | (simp only [push_cast]; done)
  refine awp_cond rfl (fun hc => ?_) (fun hc => ?_) <;> (try simp only [push_cast] at hc)
  ·
    refine awp_seq' fun K hK => ?_
    refine awp_region tyOk tyPos [] rfl ?_
    simp only [push_cast, ↓brB_true, ↓brB_false, ↓reduceIte, zA, zB, zC, zD, zE, zF, zG, zH, zI, reduceCtorEq]
    repeat' apply And.intro
    all_goals try exact gB
    all_goals first | (refine hK _ ?_; clear hK K) | (simp only [push_cast]; done)
    refine awp_ret ?_
    (try simp only [AThen, ABlk])
    refine ⟨Or.inl rfl, ?_⟩
    simp only [RetOk, push_cast, ↓brB_true, ↓brB_false, ↓reduceIte, zA, zB, zC, zD, zE, zF, zG, zH, zI, reduceCtorEq]
    rw [prC_no (by with_reducible assumption)]
  ·
    refine awp_skip ?_
    (try simp only [AThen, ABlk, reduceIte, zF]); refine hK1 _ ?_
    refine awp_seq' fun K hK => ?_
    refine awp_region tyOk tyPos [] rfl ?_
    all_goals refine aops_cut 4 fun K9 hK9 => ?_
    all_goals simp only [push_cast, ↓brB_true, ↓brB_false, ↓reduceIte, zA, zB, zC, zD, zE, zF, zG, zH, zI, reduceCtorEq]
    all_goals repeat' (first | (apply brB_mk <;> (intro hg; (try simp only [push_cast] at hg))) | (refine ⟨_, prioLS_fn ps ha r v (by with_reducible assumption), ?_⟩; simp only [push_cast, ↓brB_true, ↓brB_false, ↓reduceIte, zA, zB, zC, zD, zE, zF, zG, zH, zI, reduceCtorEq]) | apply And.intro | (intro hg; (try simp only [push_cast] at hg)))
    all_goals try exact gA
    all_goals first | (refine hK9 _ ?_; clear hK9 K9) | (simp only [push_cast]; done)
    all_goals simp only [push_cast, ↓brB_true, ↓brB_false, ↓reduceIte, zA, zB, zC, zD, zE, zF, zG, zH, zI, reduceCtorEq]
    all_goals repeat' (first | (apply brB_mk <;> (intro hg; (try simp only [push_cast] at hg))) | (refine ⟨_, prioLS_fn ps ha r v (by with_reducible assumption), ?_⟩; simp only [push_cast, ↓brB_true, ↓brB_false, ↓reduceIte, zA, zB, zC, zD, zE, zF, zG, zH, zI, reduceCtorEq]) | apply And.intro | (intro hg; (try simp only [push_cast] at hg)))
    all_goals try exact gA
    all_goals first | (refine hK _ ?_; clear hK K) | (simp only [push_cast]; done)
    refine awp_ret ?_
    (try simp only [AThen, ABlk])
    refine ⟨Or.inl rfl, ?_⟩
    simp only [RetOk, push_cast, ↓brB_true, ↓brB_false, ↓reduceIte, zA, zB, zC, zD, zE, zF, zG, zH, zI, reduceCtorEq]
    rw [prC_yes (by with_reducible assumption)]
end Go.Proofs.Ytdbecmmeifdafaa
