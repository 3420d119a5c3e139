/- the cursor of the reference's draws: records -/
import Derived.Test.YtdbecmmeifdafaaB6zrs
import Derived.Test.YtdbecmmeifdafaaB4zrs
namespace Go.Proofs.Ytdbecmmeifdafaa
open Nat renaming reduceMod → zA, reduceMul → zB, reduceDiv → zC, reduceAdd → zD, reduceSub → zE, reduceEqDiff → zF, reduceBEq → zG, reduceLT → zH, reduceLeDiff → zI
open Go.RowKit
set_option linter.unusedVariables false
set_option linter.unusedSimpArgs false

attribute [-push_cast] rm
def drB (code : List Int) (j : Nat) : Nat → List Int
  | 0 => []
  | i + 1 => (drB code j i).take (bl code (j + i) (i + 1)).toNat ++ [(i : Int)] ++ (drB code j i).drop (bl code (j + i) (i + 1)).toNat
theorem drB_s (code : List Int) (j i : Nat) : drB code j (i + 1) = (drB code j i).take (bl code (j + i) (i + 1)).toNat ++ [(i : Int)] ++ (drB code j i).drop (bl code (j + i) (i + 1)).toNat := rfl
theorem drB_len (code : List Int) (j : Nat) : ∀ i, (drB code j i).length = i
  | 0 => rfl
  | i + 1 => by
    have h := drB_len code j i
    rw [drB_s]
    simp only [List.length_append, List.length_take, List.length_drop, List.length_singleton]
    omega
attribute [irreducible] drB
theorem ins_eq {xs : List Int} {a i : Nat} (h : xs.length = i) (ha : a ≤ i) (v : Int) : List.take (a + 1) (List.take a (List.take a xs) ++ [v]) ++ List.take (i - a) (List.drop a xs) = List.take a xs ++ [v] ++ List.drop a xs := by
  rw [List.take_take, Nat.min_self, List.take_of_length_le (l := List.take a xs ++ [v]) (by simp; omega), List.take_of_length_le (l := List.drop a xs) (by simp [h])]
def drF (code : List Int) (k j : Nat) : List Int :=
  if oc code (j + k) 10 = true then
    if bl code (j + k + 1) 3 = 0 then drB code j k ++ [bl code (j + k + 1 + 1) 5] else if bl code (j + k + 1) 3 = 1 then (drB code j k).set 0 (nmV code (j + k + 1 + 1) k) else drB code j k
  else drB code j k
def drO (code : List Int) (k j : Nat) : Nat := if oc code (j + k) 10 = true then (if bl code (j + k + 1) 3 = 0 then 0 else if bl code (j + k + 1) 3 = 1 then 0 else if k = 0 then 0 else 1) else 0
def drN (code : List Int) (k j : Nat) : Nat := if oc code (j + k) 10 = true then (if bl code (j + k + 1) 3 = 0 then k + 1 else if bl code (j + k + 1) 3 = 1 then k else if k = 0 then 0 else k - 1) else k
def drJ (code : List Int) (k j : Nat) : Nat :=
  if oc code (j + k) 10 = true then
    if bl code (j + k + 1) 3 = 0 then j + k + 1 + 1 + 1 else if bl code (j + k + 1) 3 = 1 then (if k = 0 then j + k + 1 + 1 else j + k + 1 + 1 + 3) else j + k + 1 + 1
  else j + k + 1
set_option maxRecDepth 20000 in
set_option maxHeartbeats 4000000 in
theorem crec_fn (code : List Int) (hby : BytesOk code) (j : Nat) (k : Nat) (hk : k ≤ 100) : FnQ Try.prog tyT 124 (cSt code j) [.c (.int .i64 k)] (cSt code (drJ code k j)) [.c (DI (drF code k j))] [some (2, drO code k j, drN code k j)] := by
  have hcl := hby.1
  have hB1 := conce_fn code hby (j + k) 10 (by decide)
  have hB2 := cbel_fn code hby (j + k + 1) 3 (by decide)
  have hr2 := bl_rg code (j + k + 1) (n := 3) (by decide)
  have hB3 := cbel_fn code hby (j + k + 1 + 1) 5 (by decide)
  have hB4 := cnum_fn code hby (j + k + 1 + 1) k (by omega)
  have hdl := drB_len code j
  unfold drF drO drN drJ
  generalize bl code (j + k + 1) 3 = x at hB2 hr2 ⊢
  generalize oc code (j + k) 10 = o at hB1 ⊢
  refine FnQ_of (fn := Try.f124) (rs := [.tmp 4]) tyOk tyPos Try.func124 (by kernel_rfl) rfl rfl (by rw [Try.ntmps124]; exact Nat.le_of_ble_eq_true rfl) rfl (by simp only [szA, List.mem_cons, List.not_mem_nil, or_false, forall_eq_or_imp, forall_eq, false_implies, implies_true, VT.cells, szL]; try decide) (Nat.le_of_ble_eq_true rfl) (by simp only [szL]; decide) (Nat.le_of_ble_eq_true rfl) rfl rfl ?_
  rw [Try.ntmps124]
  simp only [push_cast, ↓brB_true, ↓brB_false, ↓reduceIte, zA, zB, zC, zD, zE, zF, zG, zH, zI, reduceCtorEq]
  refine awp_seq' fun K hK => ?_
  refine awp_region tyOk tyPos [] rfl ?_
  simp only [push_cast, ↓brB_true, ↓brB_false, ↓reduceIte, zA, zB, zC, zD, zE, zF, zG, zH, zI, reduceCtorEq]
  repeat' apply And.intro
  all_goals try exact gB
  all_goals first | (refine hK _ ?_; clear hK K) | (simp only [push_cast]; done)
  refine awp_seq' fun K hK => ?_
  refine awp_region tyOk tyPos [] rfl ?_
  simp only [push_cast, ↓brB_true, ↓brB_false, ↓reduceIte, zA, zB, zC, zD, zE, zF, zG, zH, zI, reduceCtorEq]
  repeat' apply And.intro
  all_goals try exact gB
  all_goals first | (refine hK _ ?_; clear hK K) | (simp only [push_cast]; done)
  refine awp_seq' fun K1 hK1 => ?_
  refine awp_seq' fun K hK => ?_
  refine awp_region tyOk tyPos [] rfl ?_
  simp only [push_cast, ↓brB_true, ↓brB_false, ↓reduceIte, zA, zB, zC, zD, zE, zF, zG, zH, zI, reduceCtorEq]
  repeat' apply And.intro
  all_goals try exact gB
  all_goals first | (refine hK _ ?_; clear hK K) | (simp only [push_cast]; done)
  refine awp_block ?_
  refine awp_loopU [5,6,7,8,10,11,12,13,14,15,16,17,18,19,20,21,22,23,24,25,26,27,28,29,30,31,32,1000000] [80] (fun (i : Nat) => [(6, .int .i64 i), (5, .sl 80 [] 0 i 2)]) (fun i => [(1000000, [.sl 16000000 [] 0 code.length 5, .int .i64 (nI code (j + i)), .int .i64 (mH code (j + i))])]) (fun i => [(80, ⟨.ex, 2, dI (drB code j i), none⟩), (16000000, ⟨.sh, 5, dU code, some 16000000⟩)]) (fun i => i ≤ k) (fun i => k - i) 0 ?_ (by omega) ?_
  ·
    rw [show drB code j 0 = [] from by unfold drB; rfl, show dI ([] : List Int) = [] from rfl]
    refine cov_of rfl ?_ ?_ ?_ <;> simp only [covS, covL, push_cast, ↓brB_true, ↓brB_false, ↓reduceIte, zA, zB, zC, zD, zE, zF, zG, zH, zI, reduceCtorEq]
  · rintro i hi KL0 hL0
    have hdli := hdl i
    simp only [push_cast, ↓brB_true, ↓brB_false, ↓reduceIte, zA, zB, zC, zD, zE, zF, zG, zH, zI, reduceCtorEq]
    refine awp_seq' fun K2 hK2 => ?_
    refine awp_seq' fun K hK => ?_
    refine awp_region tyOk tyPos [] rfl ?_
    simp only [push_cast, ↓brB_true, ↓brB_false, ↓reduceIte, zA, zB, zC, zD, zE, zF, zG, zH, zI, reduceCtorEq]
    repeat' apply And.intro
    all_goals try exact gB
    all_goals first | (refine hK _ ?_; clear hK K) | (simp only [push_cast]; done)
    refine awp_cond rfl (fun hc => ?_) (fun hc => ?_) <;> (try simp only [push_cast] at hc)
    ·
      refine awp_skip ?_
      (try simp only [AThen, ABlk, reduceIte, zF]); refine hK2 _ ?_
      refine awp_seq' fun K3 hK3 => ?_
      refine awp_block ?_
      have hB0 := cbel_fn code hby (j + i) (i + 1) (by omega)
      have hr0 := bl_rg code (j + i) (n := (i : Int) + 1) (by omega)
      refine awp_seq' fun K hK => ?_
      refine awp_regionN false tyOk tyPos ?_ rfl ?_
      · kernel_rfl
      all_goals refine seqE_cut 4 fun K9 hK9 => ?_
      all_goals simp only [push_cast, ↓brB_true, ↓brB_false, ↓reduceIte, zA, zB, zC, zD, zE, zF, zG, zH, zI, reduceCtorEq]
      all_goals repeat' (first | (apply brB_mk <;> (intro hg; (try simp only [push_cast] at hg))) | (refine ⟨_, _, hB0, ?_⟩; simp only [push_cast, ↓brB_true, ↓brB_false, ↓reduceIte, zA, zB, zC, zD, zE, zF, zG, zH, zI, reduceCtorEq]) | apply And.intro | (intro hg; (try simp only [push_cast] at hg)))
      all_goals try exact gA
      all_goals first | (refine hK9 _ ?_; clear hK9 K9) | (simp only [push_cast]; done)
      all_goals simp only [push_cast, ↓brB_true, ↓brB_false, ↓reduceIte, zA, zB, zC, zD, zE, zF, zG, zH, zI, reduceCtorEq]
      all_goals repeat' (first | (apply brB_mk <;> (intro hg; (try simp only [push_cast] at hg))) | (refine ⟨_, _, hB0, ?_⟩; simp only [push_cast, ↓brB_true, ↓brB_false, ↓reduceIte, zA, zB, zC, zD, zE, zF, zG, zH, zI, reduceCtorEq]) | apply And.intro | (intro hg; (try simp only [push_cast] at hg)))
      all_goals try exact gA
      all_goals first | (refine hK _ ?_; clear hK K) | (simp only [push_cast]; done)
      refine awp_seq' fun K hK => ?_
      refine awp_region tyOk tyPos [] rfl ?_
      simp only [push_cast, ↓brB_true, ↓brB_false, ↓reduceIte, zA, zB, zC, zD, zE, zF, zG, zH, zI, reduceCtorEq]
      repeat' apply And.intro
      all_goals try exact gB
      all_goals first | (refine hK _ ?_; clear hK K) | (simp only [push_cast]; done)
      refine awp_seq' fun K hK => ?_
      refine awp_region tyOk tyPos [] rfl ?_
      simp only [push_cast, ↓brB_true, ↓brB_false, ↓reduceIte, zA, zB, zC, zD, zE, zF, zG, zH, zI, reduceCtorEq]
      repeat' apply And.intro
      all_goals try exact gB
      all_goals first | (refine hK _ ?_; clear hK K) | (simp only [push_cast]; done)
      refine awp_region tyOk tyPos [] rfl ?_
      simp only [push_cast, ↓brB_true, ↓brB_false, ↓reduceIte, zA, zB, zC, zD, zE, zF, zG, zH, zI, reduceCtorEq]
      repeat' apply And.intro
      all_goals try exact gB
      (try simp only [AThen, ABlk, reduceIte, zF]); refine hK3 _ ?_
      refine awp_region tyOk tyPos [] rfl ?_
      simp only [push_cast, ↓brB_true, ↓brB_false, ↓reduceIte, zA, zB, zC, zD, zE, zF, zG, zH, zI, reduceCtorEq]
      repeat' apply And.intro
      all_goals try exact gB
      refine hL0 _ ⟨i + 1, by omega, by omega, ?_⟩
      rw [drB_s]
      refine cov_of rfl ?_ ?_ ?_ <;> simp only [covS, covL, push_cast, ↓brB_true, ↓brB_false, ↓reduceIte, zA, zB, zC, zD, zE, zF, zG, zH, zI, reduceCtorEq]
      all_goals first | (refine congrArg (fun n => AV.sl 80 [] 0 n 2) ?_; omega) | exact rfl | (rw [ins_eq hdli (by omega)]; done) | skip
    ·
      refine awp_exit ?_
      have hii : k = i := by omega
      subst hii
      (try simp only [AThen, ABlk, reduceIte, zF]); refine hK1 _ ?_
      refine awp_seq' fun K4 hK4 => ?_
      refine awp_seq' fun K hK => ?_
      refine awp_regionN false tyOk tyPos ?_ rfl ?_
      · kernel_rfl
      all_goals refine seqE_cut 2 fun K9 hK9 => ?_
      all_goals simp only [push_cast, ↓brB_true, ↓brB_false, ↓reduceIte, zA, zB, zC, zD, zE, zF, zG, zH, zI, reduceCtorEq]
      all_goals repeat' (first | (apply brB_mk <;> (intro hg; (try simp only [push_cast] at hg))) | (refine ⟨_, _, hB1, ?_⟩; simp only [push_cast, ↓brB_true, ↓brB_false, ↓reduceIte, zA, zB, zC, zD, zE, zF, zG, zH, zI, reduceCtorEq]) | apply And.intro | (intro hg; (try simp only [push_cast] at hg)))
      all_goals try exact gA
      all_goals first | (refine hK9 _ ?_; clear hK9 K9) | (simp only [push_cast]; done)
      all_goals simp only [push_cast, ↓brB_true, ↓brB_false, ↓reduceIte, zA, zB, zC, zD, zE, zF, zG, zH, zI, reduceCtorEq]
      all_goals repeat' (first | (apply brB_mk <;> (intro hg; (try simp only [push_cast] at hg))) | (refine ⟨_, _, hB1, ?_⟩; simp only [push_cast, ↓brB_true, ↓brB_false, ↓reduceIte, zA, zB, zC, zD, zE, zF, zG, zH, zI, reduceCtorEq]) | apply And.intro | (intro hg; (try simp only [push_cast] at hg)))
      all_goals try exact gA
      all_goals first | (refine hK _ ?_; clear hK K) | (simp only [push_cast]; done)
      refine awp_cond rfl (fun hc => ?_) (fun hc => ?_) <;> (try simp only [push_cast] at hc)
      ·
        refine awp_seq' fun K hK => ?_
        refine awp_regionN false tyOk tyPos ?_ rfl ?_
        · kernel_rfl
        all_goals refine seqE_cut 2 fun K9 hK9 => ?_
        all_goals simp only [push_cast, ↓brB_true, ↓brB_false, ↓reduceIte, zA, zB, zC, zD, zE, zF, zG, zH, zI, reduceCtorEq]
        all_goals repeat' (first | (apply brB_mk <;> (intro hg; (try simp only [push_cast] at hg))) | (refine ⟨_, _, hB2, ?_⟩; simp only [push_cast, ↓brB_true, ↓brB_false, ↓reduceIte, zA, zB, zC, zD, zE, zF, zG, zH, zI, reduceCtorEq]) | apply And.intro | (intro hg; (try simp only [push_cast] at hg)))
        all_goals try exact gA
        all_goals first | (refine hK9 _ ?_; clear hK9 K9) | (simp only [push_cast]; done)
        all_goals simp only [push_cast, ↓brB_true, ↓brB_false, ↓reduceIte, zA, zB, zC, zD, zE, zF, zG, zH, zI, reduceCtorEq]
        all_goals repeat' (first | (apply brB_mk <;> (intro hg; (try simp only [push_cast] at hg))) | (refine ⟨_, _, hB2, ?_⟩; simp only [push_cast, ↓brB_true, ↓brB_false, ↓reduceIte, zA, zB, zC, zD, zE, zF, zG, zH, zI, reduceCtorEq]) | apply And.intro | (intro hg; (try simp only [push_cast] at hg)))
        all_goals try exact gA
        all_goals first | (refine hK _ ?_; clear hK K) | (simp only [push_cast]; done)
        refine awp_block ?_
        refine awp_seq' fun K hK => ?_
        refine awp_region tyOk tyPos [] rfl ?_
        simp only [push_cast, ↓brB_true, ↓brB_false, ↓reduceIte, zA, zB, zC, zD, zE, zF, zG, zH, zI, reduceCtorEq]
        repeat' apply And.intro
        all_goals try exact gB
        all_goals first | (refine hK _ ?_; clear hK K) | (simp only [push_cast]; done)
        refine awp_cond rfl (fun hc => ?_) (fun hc => ?_) <;> (try simp only [push_cast] at hc)
        ·
          refine awp_regionN false tyOk tyPos ?_ rfl ?_
          · kernel_rfl
          all_goals refine seqE_cut 3 fun K9 hK9 => ?_
          all_goals simp only [push_cast, ↓brB_true, ↓brB_false, ↓reduceIte, zA, zB, zC, zD, zE, zF, zG, zH, zI, reduceCtorEq]
          all_goals repeat' (first | (apply brB_mk <;> (intro hg; (try simp only [push_cast] at hg))) | (refine ⟨_, _, hB3, ?_⟩; simp only [push_cast, ↓brB_true, ↓brB_false, ↓reduceIte, zA, zB, zC, zD, zE, zF, zG, zH, zI, reduceCtorEq]) | apply And.intro | (intro hg; (try simp only [push_cast] at hg)))
          all_goals try exact gA
          all_goals first | (refine hK9 _ ?_; clear hK9 K9) | (simp only [push_cast]; done)
          all_goals simp only [push_cast, ↓brB_true, ↓brB_false, ↓reduceIte, zA, zB, zC, zD, zE, zF, zG, zH, zI, reduceCtorEq]
          all_goals repeat' (first | (apply brB_mk <;> (intro hg; (try simp only [push_cast] at hg))) | (refine ⟨_, _, hB3, ?_⟩; simp only [push_cast, ↓brB_true, ↓brB_false, ↓reduceIte, zA, zB, zC, zD, zE, zF, zG, zH, zI, reduceCtorEq]) | apply And.intro | (intro hg; (try simp only [push_cast] at hg)))
          all_goals try exact gA
          (try simp only [AThen, ABlk, reduceIte, zF]); refine hK4 _ ?_
          refine awp_seq' fun K hK => ?_
          refine awp_region tyOk tyPos [] rfl ?_
          simp only [push_cast, ↓brB_true, ↓brB_false, ↓reduceIte, zA, zB, zC, zD, zE, zF, zG, zH, zI, reduceCtorEq]
          repeat' apply And.intro
          all_goals try exact gB
          all_goals first | (refine hK _ ?_; clear hK K) | (simp only [push_cast]; done)
          refine awp_ret ?_
          (try simp only [AThen, ABlk])
          refine ⟨Or.inl rfl, ?_⟩
          simp only [RetO, RetOk, cellsB, resVars, resVar, push_cast, ↓brB_true, ↓brB_false, ↓reduceIte, zA, zB, zC, zD, zE, zF, zG, zH, zI, reduceCtorEq]
          all_goals first
            | (have ho9 : o = true := by with_reducible assumption
               have hx9 : x = 0 := by with_reducible assumption
               subst hx9
               subst ho9
               refine ⟨rfl, ⟨?_, ?_⟩, rfl, rfl⟩
               · show _ = dI (drB code j _ ++ [_]); rw [List.take_of_length_le (by rw [hdl]; exact Nat.le_refl _)]
               · show _ = (drB code j _ ++ [_]).length; rw [List.take_of_length_le (by rw [hdl]; exact Nat.le_refl _)])
            | (have ho9 : o = true := by with_reducible assumption
               have hx9 : x = 1 := by with_reducible assumption
               have hk9 : ¬ k = 0 := by omega
               subst hx9
               subst ho9
               refine ⟨rfl, ⟨rfl, rfl⟩, ?_, ?_⟩
               · show _ = nI code (if k = 0 then _ else _); rw [if_neg hk9]
               · show _ = mH code (if k = 0 then _ else _); rw [if_neg hk9])
            | (have ho9 : o = true := by with_reducible assumption
               have hx9 : x = 1 := by with_reducible assumption
               have hk9 : k = 0 := by omega
               subst hk9
               subst hx9
               subst ho9
               have hd0 : drB code j 0 = [] := List.eq_nil_of_length_eq_zero (hdl 0)
               refine ⟨rfl, ⟨?_, ?_⟩, rfl, rfl⟩
               · show _ = dI ((drB code j 0).set 0 _); rw [hd0]; rfl
               · show _ = ((drB code j 0).set 0 _).length; rw [hd0]; rfl)
            | (have ho9 : o = true := by with_reducible assumption
               have hx9 : x = 2 := by omega
               have hk9 : ¬ k = 0 := by omega
               subst hx9
               subst ho9
               refine ⟨?_, ⟨rfl, rfl⟩, rfl, rfl⟩
               show _ = [some (_, (if k = 0 then 0 else 1), (if k = 0 then 0 else k - 1))]
               rw [if_neg hk9, if_neg hk9])
            | (have ho9 : o = true := by with_reducible assumption
               have hx9 : x = 2 := by omega
               have hk9 : k = 0 := by omega
               subst hk9
               subst hx9
               subst ho9
               exact ⟨rfl, ⟨rfl, rfl⟩, rfl, rfl⟩)
            | (have ho9 : o = false := by with_reducible assumption
               subst ho9
               exact ⟨rfl, ⟨rfl, rfl⟩, rfl, rfl⟩)
            | skip
        ·
          refine awp_seq' fun K hK => ?_
          refine awp_region tyOk tyPos [] rfl ?_
          simp only [push_cast, ↓brB_true, ↓brB_false, ↓reduceIte, zA, zB, zC, zD, zE, zF, zG, zH, zI, reduceCtorEq]
          repeat' apply And.intro
          all_goals try exact gB
          all_goals first | (refine hK _ ?_; clear hK K) | (simp only [push_cast]; done)
          refine awp_cond rfl (fun hc => ?_) (fun hc => ?_) <;> (try simp only [push_cast] at hc)
          ·
            refine awp_seq' fun K hK => ?_
            refine awp_region tyOk tyPos [] rfl ?_
            simp only [push_cast, ↓brB_true, ↓brB_false, ↓reduceIte, zA, zB, zC, zD, zE, zF, zG, zH, zI, reduceCtorEq]
            repeat' apply And.intro
            all_goals try exact gB
            all_goals first | (refine hK _ ?_; clear hK K) | (simp only [push_cast]; done)
            refine awp_cond rfl (fun hc => ?_) (fun hc => ?_) <;> (try simp only [push_cast] at hc)
            ·
              refine awp_regionN false tyOk tyPos ?_ rfl ?_
              · kernel_rfl
              all_goals refine seqE_cut 4 fun K9 hK9 => ?_
              all_goals simp only [push_cast, ↓brB_true, ↓brB_false, ↓reduceIte, zA, zB, zC, zD, zE, zF, zG, zH, zI, reduceCtorEq]
              all_goals repeat' (first | (apply brB_mk <;> (intro hg; (try simp only [push_cast] at hg))) | (refine ⟨_, _, hB4, ?_⟩; simp only [push_cast, ↓brB_true, ↓brB_false, ↓reduceIte, zA, zB, zC, zD, zE, zF, zG, zH, zI, reduceCtorEq]) | apply And.intro | (intro hg; (try simp only [push_cast] at hg)))
              all_goals try exact gA
              all_goals first | (refine hK9 _ ?_; clear hK9 K9) | (simp only [push_cast]; done)
              all_goals simp only [push_cast, ↓brB_true, ↓brB_false, ↓reduceIte, zA, zB, zC, zD, zE, zF, zG, zH, zI, reduceCtorEq]
              all_goals repeat' (first | (apply brB_mk <;> (intro hg; (try simp only [push_cast] at hg))) | (refine ⟨_, _, hB4, ?_⟩; simp only [push_cast, ↓brB_true, ↓brB_false, ↓reduceIte, zA, zB, zC, zD, zE, zF, zG, zH, zI, reduceCtorEq]) | apply And.intro | (intro hg; (try simp only [push_cast] at hg)))
              all_goals try exact gA
              (try simp only [AThen, ABlk, reduceIte, zF]); refine hK4 _ ?_
              refine awp_seq' fun K hK => ?_
              refine awp_region tyOk tyPos [] rfl ?_
              simp only [push_cast, ↓brB_true, ↓brB_false, ↓reduceIte, zA, zB, zC, zD, zE, zF, zG, zH, zI, reduceCtorEq]
              repeat' apply And.intro
              all_goals try exact gB
              all_goals first | (refine hK _ ?_; clear hK K) | (simp only [push_cast]; done)
              refine awp_ret ?_
              (try simp only [AThen, ABlk])
              refine ⟨Or.inl rfl, ?_⟩
              simp only [RetO, RetOk, cellsB, resVars, resVar, push_cast, ↓brB_true, ↓brB_false, ↓reduceIte, zA, zB, zC, zD, zE, zF, zG, zH, zI, reduceCtorEq]
              all_goals first
                | (have ho9 : o = true := by with_reducible assumption
                   have hx9 : x = 0 := by with_reducible assumption
                   subst hx9
                   subst ho9
                   refine ⟨rfl, ⟨?_, ?_⟩, rfl, rfl⟩
                   · show _ = dI (drB code j _ ++ [_]); rw [List.take_of_length_le (by rw [hdl]; exact Nat.le_refl _)]
                   · show _ = (drB code j _ ++ [_]).length; rw [List.take_of_length_le (by rw [hdl]; exact Nat.le_refl _)])
                | (have ho9 : o = true := by with_reducible assumption
                   have hx9 : x = 1 := by with_reducible assumption
                   have hk9 : ¬ k = 0 := by omega
                   subst hx9
                   subst ho9
                   refine ⟨rfl, ⟨rfl, rfl⟩, ?_, ?_⟩
                   · show _ = nI code (if k = 0 then _ else _); rw [if_neg hk9]
                   · show _ = mH code (if k = 0 then _ else _); rw [if_neg hk9])
                | (have ho9 : o = true := by with_reducible assumption
                   have hx9 : x = 1 := by with_reducible assumption
                   have hk9 : k = 0 := by omega
                   subst hk9
                   subst hx9
                   subst ho9
                   have hd0 : drB code j 0 = [] := List.eq_nil_of_length_eq_zero (hdl 0)
                   refine ⟨rfl, ⟨?_, ?_⟩, rfl, rfl⟩
                   · show _ = dI ((drB code j 0).set 0 _); rw [hd0]; rfl
                   · show _ = ((drB code j 0).set 0 _).length; rw [hd0]; rfl)
                | (have ho9 : o = true := by with_reducible assumption
                   have hx9 : x = 2 := by omega
                   have hk9 : ¬ k = 0 := by omega
                   subst hx9
                   subst ho9
                   refine ⟨?_, ⟨rfl, rfl⟩, rfl, rfl⟩
                   show _ = [some (_, (if k = 0 then 0 else 1), (if k = 0 then 0 else k - 1))]
                   rw [if_neg hk9, if_neg hk9])
                | (have ho9 : o = true := by with_reducible assumption
                   have hx9 : x = 2 := by omega
                   have hk9 : k = 0 := by omega
                   subst hk9
                   subst hx9
                   subst ho9
                   exact ⟨rfl, ⟨rfl, rfl⟩, rfl, rfl⟩)
                | (have ho9 : o = false := by with_reducible assumption
                   subst ho9
                   exact ⟨rfl, ⟨rfl, rfl⟩, rfl, rfl⟩)
                | skip
            ·
              refine awp_skip ?_
              (try simp only [AThen, ABlk, reduceIte, zF]); refine hK4 _ ?_
              refine awp_seq' fun K hK => ?_
              refine awp_region tyOk tyPos [] rfl ?_
              simp only [push_cast, ↓brB_true, ↓brB_false, ↓reduceIte, zA, zB, zC, zD, zE, zF, zG, zH, zI, reduceCtorEq]
              repeat' apply And.intro
              all_goals try exact gB
              all_goals first | (refine hK _ ?_; clear hK K) | (simp only [push_cast]; done)
              refine awp_ret ?_
              (try simp only [AThen, ABlk])
              refine ⟨Or.inl rfl, ?_⟩
              simp only [RetO, RetOk, cellsB, resVars, resVar, push_cast, ↓brB_true, ↓brB_false, ↓reduceIte, zA, zB, zC, zD, zE, zF, zG, zH, zI, reduceCtorEq]
              all_goals first
                | (have ho9 : o = true := by with_reducible assumption
                   have hx9 : x = 0 := by with_reducible assumption
                   subst hx9
                   subst ho9
                   refine ⟨rfl, ⟨?_, ?_⟩, rfl, rfl⟩
                   · show _ = dI (drB code j _ ++ [_]); rw [List.take_of_length_le (by rw [hdl]; exact Nat.le_refl _)]
                   · show _ = (drB code j _ ++ [_]).length; rw [List.take_of_length_le (by rw [hdl]; exact Nat.le_refl _)])
                | (have ho9 : o = true := by with_reducible assumption
                   have hx9 : x = 1 := by with_reducible assumption
                   have hk9 : ¬ k = 0 := by omega
                   subst hx9
                   subst ho9
                   refine ⟨rfl, ⟨rfl, rfl⟩, ?_, ?_⟩
                   · show _ = nI code (if k = 0 then _ else _); rw [if_neg hk9]
                   · show _ = mH code (if k = 0 then _ else _); rw [if_neg hk9])
                | (have ho9 : o = true := by with_reducible assumption
                   have hx9 : x = 1 := by with_reducible assumption
                   have hk9 : k = 0 := by omega
                   subst hk9
                   subst hx9
                   subst ho9
                   have hd0 : drB code j 0 = [] := List.eq_nil_of_length_eq_zero (hdl 0)
                   refine ⟨rfl, ⟨?_, ?_⟩, rfl, rfl⟩
                   · show _ = dI ((drB code j 0).set 0 _); rw [hd0]; rfl
                   · show _ = ((drB code j 0).set 0 _).length; rw [hd0]; rfl)
                | (have ho9 : o = true := by with_reducible assumption
                   have hx9 : x = 2 := by omega
                   have hk9 : ¬ k = 0 := by omega
                   subst hx9
                   subst ho9
                   refine ⟨?_, ⟨rfl, rfl⟩, rfl, rfl⟩
                   show _ = [some (_, (if k = 0 then 0 else 1), (if k = 0 then 0 else k - 1))]
                   rw [if_neg hk9, if_neg hk9])
                | (have ho9 : o = true := by with_reducible assumption
                   have hx9 : x = 2 := by omega
                   have hk9 : k = 0 := by omega
                   subst hk9
                   subst hx9
                   subst ho9
                   exact ⟨rfl, ⟨rfl, rfl⟩, rfl, rfl⟩)
                | (have ho9 : o = false := by with_reducible assumption
                   subst ho9
                   exact ⟨rfl, ⟨rfl, rfl⟩, rfl, rfl⟩)
                | skip
          ·
            refine awp_seq' fun K hK => ?_
            refine awp_region tyOk tyPos [] rfl ?_
            simp only [push_cast, ↓brB_true, ↓brB_false, ↓reduceIte, zA, zB, zC, zD, zE, zF, zG, zH, zI, reduceCtorEq]
            repeat' apply And.intro
            all_goals try exact gB
            all_goals first | (refine hK _ ?_; clear hK K) | (simp only [push_cast]; done)
            refine awp_cond rfl (fun hc => ?_) (fun hc => ?_)
            rotate_left
            · exfalso; first | (cases hc; done) | (simp only [push_cast] at hc; done) | (simp only [push_cast] at hc; omega) | omega
            refine awp_seq' fun K hK => ?_
            refine awp_region tyOk tyPos [] rfl ?_
            simp only [push_cast, ↓brB_true, ↓brB_false, ↓reduceIte, zA, zB, zC, zD, zE, zF, zG, zH, zI, reduceCtorEq]
            repeat' apply And.intro
            all_goals try exact gB
            all_goals first | (refine hK _ ?_; clear hK K) | (simp only [push_cast]; done)
            refine awp_cond rfl (fun hc => ?_) (fun hc => ?_) <;> (try simp only [push_cast] at hc)
            ·
              refine awp_region tyOk tyPos [] rfl ?_
              simp only [push_cast, ↓brB_true, ↓brB_false, ↓reduceIte, zA, zB, zC, zD, zE, zF, zG, zH, zI, reduceCtorEq]
              repeat' apply And.intro
              all_goals try exact gB
              (try simp only [AThen, ABlk, reduceIte, zF]); refine hK4 _ ?_
              refine awp_seq' fun K hK => ?_
              refine awp_region tyOk tyPos [] rfl ?_
              simp only [push_cast, ↓brB_true, ↓brB_false, ↓reduceIte, zA, zB, zC, zD, zE, zF, zG, zH, zI, reduceCtorEq]
              repeat' apply And.intro
              all_goals try exact gB
              all_goals first | (refine hK _ ?_; clear hK K) | (simp only [push_cast]; done)
              refine awp_ret ?_
              (try simp only [AThen, ABlk])
              refine ⟨Or.inl rfl, ?_⟩
              simp only [RetO, RetOk, cellsB, resVars, resVar, push_cast, ↓brB_true, ↓brB_false, ↓reduceIte, zA, zB, zC, zD, zE, zF, zG, zH, zI, reduceCtorEq]
              all_goals first
                | (have ho9 : o = true := by with_reducible assumption
                   have hx9 : x = 0 := by with_reducible assumption
                   subst hx9
                   subst ho9
                   refine ⟨rfl, ⟨?_, ?_⟩, rfl, rfl⟩
                   · show _ = dI (drB code j _ ++ [_]); rw [List.take_of_length_le (by rw [hdl]; exact Nat.le_refl _)]
                   · show _ = (drB code j _ ++ [_]).length; rw [List.take_of_length_le (by rw [hdl]; exact Nat.le_refl _)])
                | (have ho9 : o = true := by with_reducible assumption
                   have hx9 : x = 1 := by with_reducible assumption
                   have hk9 : ¬ k = 0 := by omega
                   subst hx9
                   subst ho9
                   refine ⟨rfl, ⟨rfl, rfl⟩, ?_, ?_⟩
                   · show _ = nI code (if k = 0 then _ else _); rw [if_neg hk9]
                   · show _ = mH code (if k = 0 then _ else _); rw [if_neg hk9])
                | (have ho9 : o = true := by with_reducible assumption
                   have hx9 : x = 1 := by with_reducible assumption
                   have hk9 : k = 0 := by omega
                   subst hk9
                   subst hx9
                   subst ho9
                   have hd0 : drB code j 0 = [] := List.eq_nil_of_length_eq_zero (hdl 0)
                   refine ⟨rfl, ⟨?_, ?_⟩, rfl, rfl⟩
                   · show _ = dI ((drB code j 0).set 0 _); rw [hd0]; rfl
                   · show _ = ((drB code j 0).set 0 _).length; rw [hd0]; rfl)
                | (have ho9 : o = true := by with_reducible assumption
                   have hx9 : x = 2 := by omega
                   have hk9 : ¬ k = 0 := by omega
                   subst hx9
                   subst ho9
                   refine ⟨?_, ⟨rfl, rfl⟩, rfl, rfl⟩
                   show _ = [some (_, (if k = 0 then 0 else 1), (if k = 0 then 0 else k - 1))]
                   rw [if_neg hk9, if_neg hk9])
                | (have ho9 : o = true := by with_reducible assumption
                   have hx9 : x = 2 := by omega
                   have hk9 : k = 0 := by omega
                   subst hk9
                   subst hx9
                   subst ho9
                   exact ⟨rfl, ⟨rfl, rfl⟩, rfl, rfl⟩)
                | (have ho9 : o = false := by with_reducible assumption
                   subst ho9
                   exact ⟨rfl, ⟨rfl, rfl⟩, rfl, rfl⟩)
                | skip
            ·
              refine awp_skip ?_
              (try simp only [AThen, ABlk, reduceIte, zF]); refine hK4 _ ?_
              refine awp_seq' fun K hK => ?_
              refine awp_region tyOk tyPos [] rfl ?_
              simp only [push_cast, ↓brB_true, ↓brB_false, ↓reduceIte, zA, zB, zC, zD, zE, zF, zG, zH, zI, reduceCtorEq]
              repeat' apply And.intro
              all_goals try exact gB
              all_goals first | (refine hK _ ?_; clear hK K) | (simp only [push_cast]; done)
              refine awp_ret ?_
              (try simp only [AThen, ABlk])
              refine ⟨Or.inl rfl, ?_⟩
              simp only [RetO, RetOk, cellsB, resVars, resVar, push_cast, ↓brB_true, ↓brB_false, ↓reduceIte, zA, zB, zC, zD, zE, zF, zG, zH, zI, reduceCtorEq]
              all_goals first
                | (have ho9 : o = true := by with_reducible assumption
                   have hx9 : x = 0 := by with_reducible assumption
                   subst hx9
                   subst ho9
                   refine ⟨rfl, ⟨?_, ?_⟩, rfl, rfl⟩
                   · show _ = dI (drB code j _ ++ [_]); rw [List.take_of_length_le (by rw [hdl]; exact Nat.le_refl _)]
                   · show _ = (drB code j _ ++ [_]).length; rw [List.take_of_length_le (by rw [hdl]; exact Nat.le_refl _)])
                | (have ho9 : o = true := by with_reducible assumption
                   have hx9 : x = 1 := by with_reducible assumption
                   have hk9 : ¬ k = 0 := by omega
                   subst hx9
                   subst ho9
                   refine ⟨rfl, ⟨rfl, rfl⟩, ?_, ?_⟩
                   · show _ = nI code (if k = 0 then _ else _); rw [if_neg hk9]
                   · show _ = mH code (if k = 0 then _ else _); rw [if_neg hk9])
                | (have ho9 : o = true := by with_reducible assumption
                   have hx9 : x = 1 := by with_reducible assumption
                   have hk9 : k = 0 := by omega
                   subst hk9
                   subst hx9
                   subst ho9
                   have hd0 : drB code j 0 = [] := List.eq_nil_of_length_eq_zero (hdl 0)
                   refine ⟨rfl, ⟨?_, ?_⟩, rfl, rfl⟩
                   · show _ = dI ((drB code j 0).set 0 _); rw [hd0]; rfl
                   · show _ = ((drB code j 0).set 0 _).length; rw [hd0]; rfl)
                | (have ho9 : o = true := by with_reducible assumption
                   have hx9 : x = 2 := by omega
                   have hk9 : ¬ k = 0 := by omega
                   subst hx9
                   subst ho9
                   refine ⟨?_, ⟨rfl, rfl⟩, rfl, rfl⟩
                   show _ = [some (_, (if k = 0 then 0 else 1), (if k = 0 then 0 else k - 1))]
                   rw [if_neg hk9, if_neg hk9])
                | (have ho9 : o = true := by with_reducible assumption
                   have hx9 : x = 2 := by omega
                   have hk9 : k = 0 := by omega
                   subst hk9
                   subst hx9
                   subst ho9
                   exact ⟨rfl, ⟨rfl, rfl⟩, rfl, rfl⟩)
                | (have ho9 : o = false := by with_reducible assumption
                   subst ho9
                   exact ⟨rfl, ⟨rfl, rfl⟩, rfl, rfl⟩)
                | skip
      ·
        refine awp_skip ?_
        (try simp only [AThen, ABlk, reduceIte, zF]); refine hK4 _ ?_
        refine awp_seq' fun K hK => ?_
        refine awp_region tyOk tyPos [] rfl ?_
        simp only [push_cast, ↓brB_true, ↓brB_false, ↓reduceIte, zA, zB, zC, zD, zE, zF, zG, zH, zI, reduceCtorEq]
        repeat' apply And.intro
        all_goals try exact gB
        all_goals first | (refine hK _ ?_; clear hK K) | (simp only [push_cast]; done)
        refine awp_ret ?_
        (try simp only [AThen, ABlk])
        refine ⟨Or.inl rfl, ?_⟩
        simp only [RetO, RetOk, cellsB, resVars, resVar, push_cast, ↓brB_true, ↓brB_false, ↓reduceIte, zA, zB, zC, zD, zE, zF, zG, zH, zI, reduceCtorEq]
        all_goals first
          | (have ho9 : o = true := by with_reducible assumption
             have hx9 : x = 0 := by with_reducible assumption
             subst hx9
             subst ho9
             refine ⟨rfl, ⟨?_, ?_⟩, rfl, rfl⟩
             · show _ = dI (drB code j _ ++ [_]); rw [List.take_of_length_le (by rw [hdl]; exact Nat.le_refl _)]
             · show _ = (drB code j _ ++ [_]).length; rw [List.take_of_length_le (by rw [hdl]; exact Nat.le_refl _)])
          | (have ho9 : o = true := by with_reducible assumption
             have hx9 : x = 1 := by with_reducible assumption
             have hk9 : ¬ k = 0 := by omega
             subst hx9
             subst ho9
             refine ⟨rfl, ⟨rfl, rfl⟩, ?_, ?_⟩
             · show _ = nI code (if k = 0 then _ else _); rw [if_neg hk9]
             · show _ = mH code (if k = 0 then _ else _); rw [if_neg hk9])
          | (have ho9 : o = true := by with_reducible assumption
             have hx9 : x = 1 := by with_reducible assumption
             have hk9 : k = 0 := by omega
             subst hk9
             subst hx9
             subst ho9
             have hd0 : drB code j 0 = [] := List.eq_nil_of_length_eq_zero (hdl 0)
             refine ⟨rfl, ⟨?_, ?_⟩, rfl, rfl⟩
             · show _ = dI ((drB code j 0).set 0 _); rw [hd0]; rfl
             · show _ = ((drB code j 0).set 0 _).length; rw [hd0]; rfl)
          | (have ho9 : o = true := by with_reducible assumption
             have hx9 : x = 2 := by omega
             have hk9 : ¬ k = 0 := by omega
             subst hx9
             subst ho9
             refine ⟨?_, ⟨rfl, rfl⟩, rfl, rfl⟩
             show _ = [some (_, (if k = 0 then 0 else 1), (if k = 0 then 0 else k - 1))]
             rw [if_neg hk9, if_neg hk9])
          | (have ho9 : o = true := by with_reducible assumption
             have hx9 : x = 2 := by omega
             have hk9 : k = 0 := by omega
             subst hk9
             subst hx9
             subst ho9
             exact ⟨rfl, ⟨rfl, rfl⟩, rfl, rfl⟩)
          | (have ho9 : o = false := by with_reducible assumption
             subst ho9
             exact ⟨rfl, ⟨rfl, rfl⟩, rfl, rfl⟩)
          | skip
end Go.Proofs.Ytdbecmmeifdafaa

namespace Go.Proofs.Ytdbecmmeifdafaa
open Nat renaming reduceMod → zA, reduceMul → zB, reduceDiv → zC, reduceAdd → zD, reduceSub → zE, reduceEqDiff → zF, reduceBEq → zG, reduceLT → zH, reduceLeDiff → zI
open Go.RowKit
set_option linter.unusedVariables false
set_option linter.unusedSimpArgs false

attribute [-push_cast] rm
theorem fzN_le (code : List Int) : ∀ f l j, fzN code f l j ≤ f
  | 0, l, j => Nat.le_refl _
  | f + 1, l, j => by
    unfold fzN
    have := fzN_le code f (l + 1) (j + 1)
    split <;> omega
theorem anyP_le (code : List Int) (j : Nat) : (anyP code j).length ≤ 10 := by
  have h1 := dwP_le code j
  have h2 := fzN_le code 6 (dwP code j).length (dwJ code j + 1 + 1)
  unfold anyP
  split
  · split
    · rw [List.length_append, List.length_singleton]; omega
    · split
      · rw [List.length_append, List.length_singleton]; omega
      · rw [List.length_append, fzP_len]; omega
  · omega
def viK (code : List Int) (j : Nat) : Nat := (anyP code j).length
def viJ (code : List Int) (j : Nat) : Nat := drJ code (viK code j) (anyJ code j)
def viV (code : List Int) (j : Nat) : Int := if oc code (viJ code j) 10 = true then gi [-1, 255, 256] (bl code (viJ code j + 1) 3).toNat else bl code (viJ code j + 1) 6
theorem viV_1 {code : List Int} {j : Nat} (h : oc code (viJ code j) 10 = true) : viV code j = gi [-1, 255, 256] (bl code (viJ code j + 1) 3).toNat := if_pos h
theorem viV_2 {code : List Int} {j : Nat} (h : oc code (viJ code j) 10 = false) : viV code j = bl code (viJ code j + 1) 6 := if_neg (by rw [h]; decide)
set_option maxRecDepth 20000 in
set_option maxHeartbeats 4000000 in
theorem cvis_fn (code : List Int) (hby : BytesOk code) (j : Nat)  : FnQ Try.prog tyT 88 (cSt code j) [] (cSt code (viJ code j + 1 + 1)) [.c (.lst 66 (dII (ilv (anyP code j)))), .c (DI (drF code (viK code j) (anyJ code j))), .c (.int .i64 (viV code j))] [some (66, 0, viK code j), some (2, drO code (viK code j) (anyJ code j), drN code (viK code j) (anyJ code j)), none] := by
  have hcl := hby.1
  have hB1 := cany_fn code hby j
  have hal := anyP_le code j
  have hB2 := crec_fn code hby (anyJ code j) (viK code j) (by unfold viK; omega)
  have hB3 := conce_fn code hby (viJ code j) 10 (by decide)
  have hB4 := cbel_fn code hby (viJ code j + 1) 3 (by decide)
  have hr4 := bl_rg code (viJ code j + 1) (n := 3) (by decide)
  have hB5 := cbel_fn code hby (viJ code j + 1) 6 (by decide)
  rw [show drJ code (viK code j) (anyJ code j) = viJ code j from rfl] at hB2
  unfold viK at hB2 ⊢
  refine FnQ_of (fn := Try.f88) (rs := [.tmp 2, .tmp 3, .tmp 4]) tyOk tyPos Try.func88 (by kernel_rfl) rfl rfl (by rw [Try.ntmps88]; exact Nat.le_of_ble_eq_true rfl) rfl (by simp only [szA, List.mem_cons, List.not_mem_nil, or_false, forall_eq_or_imp, forall_eq, false_implies, implies_true, VT.cells, szL]; try decide) (Nat.le_of_ble_eq_true rfl) (by simp only [szL]; decide) (Nat.le_of_ble_eq_true rfl) rfl rfl ?_
  rw [Try.ntmps88]
  simp only [push_cast, ↓brB_true, ↓brB_false, ↓reduceIte, zA, zB, zC, zD, zE, zF, zG, zH, zI, reduceCtorEq]
  refine awp_seq' fun K hK => ?_
  refine awp_region tyOk tyPos [] rfl ?_
  all_goals simp only [push_cast, ↓brB_true, ↓brB_false, ↓reduceIte, zA, zB, zC, zD, zE, zF, zG, zH, zI, reduceCtorEq]
  all_goals repeat' (first | (apply brB_mk <;> (intro hg; (try simp only [push_cast] at hg))) | apply And.intro | (intro hg; (try simp only [push_cast] at hg)))
  all_goals first | exact gA | (show HasC (.int .i64) (dI [-1, 255, 256]) _; rw [HasC_dI]; show _ < 3; omega) | skip
  all_goals first | (refine hK _ ?_; clear hK K) | (simp only [push_cast]; done)
  refine awp_seq' fun K hK => ?_
  refine awp_regionN false tyOk tyPos ?_ rfl ?_
  · kernel_rfl
  all_goals refine seqE_cut 2 fun K9 hK9 => ?_
  all_goals simp only [push_cast, ↓brB_true, ↓brB_false, ↓reduceIte, zA, zB, zC, zD, zE, zF, zG, zH, zI, reduceCtorEq]
  all_goals repeat' (first | (apply brB_mk <;> (intro hg; (try simp only [push_cast] at hg))) | (refine ⟨_, _, hB1, ?_⟩; simp only [push_cast, ↓brB_true, ↓brB_false, ↓reduceIte, zA, zB, zC, zD, zE, zF, zG, zH, zI, reduceCtorEq]) | apply And.intro | (intro hg; (try simp only [push_cast] at hg)))
  all_goals first | exact gA | (show HasC (.int .i64) (dI [-1, 255, 256]) _; rw [HasC_dI]; show _ < 3; omega) | skip
  all_goals first | (refine hK9 _ ?_; clear hK9 K9) | (simp only [push_cast]; done)
  all_goals simp only [push_cast, ↓brB_true, ↓brB_false, ↓reduceIte, zA, zB, zC, zD, zE, zF, zG, zH, zI, reduceCtorEq]
  all_goals repeat' (first | (apply brB_mk <;> (intro hg; (try simp only [push_cast] at hg))) | (refine ⟨_, _, hB1, ?_⟩; simp only [push_cast, ↓brB_true, ↓brB_false, ↓reduceIte, zA, zB, zC, zD, zE, zF, zG, zH, zI, reduceCtorEq]) | apply And.intro | (intro hg; (try simp only [push_cast] at hg)))
  all_goals first | exact gA | (show HasC (.int .i64) (dI [-1, 255, 256]) _; rw [HasC_dI]; show _ < 3; omega) | skip
  all_goals first | (refine hK _ ?_; clear hK K) | (simp only [push_cast]; done)
  refine awp_seq' fun K hK => ?_
  refine awp_regionQ 12 tyOk tyPos [] rfl ?_
  all_goals simp only [push_cast, ↓brB_true, ↓brB_false, ↓reduceIte, zA, zB, zC, zD, zE, zF, zG, zH, zI, reduceCtorEq]
  all_goals repeat' (first | (apply brB_mk <;> (intro hg; (try simp only [push_cast] at hg))) | (refine ⟨_, _, _, hB2, ?_⟩; (try simp only [push_cast, ↓brB_true, ↓brB_false, ↓reduceIte, zA, zB, zC, zD, zE, zF, zG, zH, zI, reduceCtorEq])) | apply And.intro | (intro hg; (try simp only [push_cast] at hg)))
  all_goals first | exact gA | (show HasC (.int .i64) (dI [-1, 255, 256]) _; rw [HasC_dI]; show _ < 3; omega) | skip
  all_goals first | (refine hK _ ?_; clear hK K) | (simp only [push_cast]; done)
  refine awp_seq' fun K1 hK1 => ?_
  refine awp_seq' fun K hK => ?_
  refine awp_regionN false tyOk tyPos ?_ rfl ?_
  · kernel_rfl
  all_goals refine seqE_cut 2 fun K9 hK9 => ?_
  all_goals simp only [push_cast, ↓brB_true, ↓brB_false, ↓reduceIte, zA, zB, zC, zD, zE, zF, zG, zH, zI, reduceCtorEq]
  all_goals repeat' (first | (apply brB_mk <;> (intro hg; (try simp only [push_cast] at hg))) | (refine ⟨_, _, hB3, ?_⟩; simp only [push_cast, ↓brB_true, ↓brB_false, ↓reduceIte, zA, zB, zC, zD, zE, zF, zG, zH, zI, reduceCtorEq]) | apply And.intro | (intro hg; (try simp only [push_cast] at hg)))
  all_goals first | exact gA | (show HasC (.int .i64) (dI [-1, 255, 256]) _; rw [HasC_dI]; show _ < 3; omega) | skip
  all_goals first | (refine hK9 _ ?_; clear hK9 K9) | (simp only [push_cast]; done)
  all_goals simp only [push_cast, ↓brB_true, ↓brB_false, ↓reduceIte, zA, zB, zC, zD, zE, zF, zG, zH, zI, reduceCtorEq]
  all_goals repeat' (first | (apply brB_mk <;> (intro hg; (try simp only [push_cast] at hg))) | (refine ⟨_, _, hB3, ?_⟩; simp only [push_cast, ↓brB_true, ↓brB_false, ↓reduceIte, zA, zB, zC, zD, zE, zF, zG, zH, zI, reduceCtorEq]) | apply And.intro | (intro hg; (try simp only [push_cast] at hg)))
  all_goals first | exact gA | (show HasC (.int .i64) (dI [-1, 255, 256]) _; rw [HasC_dI]; show _ < 3; omega) | skip
  all_goals first | (refine hK _ ?_; clear hK K) | (simp only [push_cast]; done)
  refine awp_cond rfl (fun hc => ?_) (fun hc => ?_) <;> (try simp only [push_cast] at hc)
  ·
    refine awp_seq' fun K hK => ?_
    refine awp_regionD1 false tyOk tyPos tyMix ?_ rfl ?_
    · kernel_rfl
    intro E hE
    all_goals refine lexF_cut 5 (by decide) fun K9 hK9 => ?_
    all_goals simp only [push_cast, ↓brB_true, ↓brB_false, ↓reduceIte, zA, zB, zC, zD, zE, zF, zG, zH, zI, reduceCtorEq]
    all_goals repeat' (first | (apply brB_mk <;> (intro hg; (try simp only [push_cast] at hg))) | (refine ⟨_, _, hB4, ?_⟩; simp only [push_cast, ↓brB_true, ↓brB_false, ↓reduceIte, zA, zB, zC, zD, zE, zF, zG, zH, zI, reduceCtorEq]) | apply And.intro | (intro hg; (try simp only [push_cast] at hg)))
    all_goals first | exact gA | (show HasC (.int .i64) (dI [-1, 255, 256]) _; rw [HasC_dI]; show _ < 3; omega) | skip
    all_goals first | (refine hK9 _ _ ?_; clear hK9 K9) | (simp only [push_cast]; done)
    all_goals simp only [push_cast, ↓brB_true, ↓brB_false, ↓reduceIte, zA, zB, zC, zD, zE, zF, zG, zH, zI, reduceCtorEq]
    all_goals repeat' (first | (apply brB_mk <;> (intro hg; (try simp only [push_cast] at hg))) | (refine ⟨_, _, hB4, ?_⟩; simp only [push_cast, ↓brB_true, ↓brB_false, ↓reduceIte, zA, zB, zC, zD, zE, zF, zG, zH, zI, reduceCtorEq]) | apply And.intro | (intro hg; (try simp only [push_cast] at hg)))
    all_goals first | exact gA | (refine hE _ _ ?_ ?_; kernel_rfl) | (show HasC (.int .i64) (dI [-1, 255, 256]) _; rw [HasC_dI]; show _ < 3; omega) | skip
    all_goals clear hE E
    all_goals first | (refine hK _ ?_; clear hK K) | (simp only [push_cast]; done)
    refine awp_ret ?_
    (try simp only [AThen, ABlk])
    refine ⟨Or.inl rfl, ?_⟩
    simp only [RetO, RetOk, cellsB, resVars, resVar, push_cast, ↓brB_true, ↓brB_false, ↓reduceIte, zA, zB, zC, zD, zE, zF, zG, zH, zI, reduceCtorEq]
    rw [viV_1 (by with_reducible assumption)]; exact getI_dI [-1, 255, 256] _
  ·
    refine awp_skip ?_
    (try simp only [AThen, ABlk, reduceIte, zF]); refine hK1 _ ?_
    refine awp_seq' fun K hK => ?_
    refine awp_regionN false tyOk tyPos ?_ rfl ?_
    · kernel_rfl
    all_goals refine seqE_cut 4 fun K9 hK9 => ?_
    all_goals simp only [push_cast, ↓brB_true, ↓brB_false, ↓reduceIte, zA, zB, zC, zD, zE, zF, zG, zH, zI, reduceCtorEq]
    all_goals repeat' (first | (apply brB_mk <;> (intro hg; (try simp only [push_cast] at hg))) | (refine ⟨_, _, hB5, ?_⟩; simp only [push_cast, ↓brB_true, ↓brB_false, ↓reduceIte, zA, zB, zC, zD, zE, zF, zG, zH, zI, reduceCtorEq]) | apply And.intro | (intro hg; (try simp only [push_cast] at hg)))
    all_goals first | exact gA | (show HasC (.int .i64) (dI [-1, 255, 256]) _; rw [HasC_dI]; show _ < 3; omega) | skip
    all_goals first | (refine hK9 _ ?_; clear hK9 K9) | (simp only [push_cast]; done)
    all_goals simp only [push_cast, ↓brB_true, ↓brB_false, ↓reduceIte, zA, zB, zC, zD, zE, zF, zG, zH, zI, reduceCtorEq]
    all_goals repeat' (first | (apply brB_mk <;> (intro hg; (try simp only [push_cast] at hg))) | (refine ⟨_, _, hB5, ?_⟩; simp only [push_cast, ↓brB_true, ↓brB_false, ↓reduceIte, zA, zB, zC, zD, zE, zF, zG, zH, zI, reduceCtorEq]) | apply And.intro | (intro hg; (try simp only [push_cast] at hg)))
    all_goals first | exact gA | (show HasC (.int .i64) (dI [-1, 255, 256]) _; rw [HasC_dI]; show _ < 3; omega) | skip
    all_goals first | (refine hK _ ?_; clear hK K) | (simp only [push_cast]; done)
    refine awp_ret ?_
    (try simp only [AThen, ABlk])
    refine ⟨Or.inl rfl, ?_⟩
    simp only [RetO, RetOk, cellsB, resVars, resVar, push_cast, ↓brB_true, ↓brB_false, ↓reduceIte, zA, zB, zC, zD, zE, zF, zG, zH, zI, reduceCtorEq]
    rw [viV_2 (by with_reducible assumption)]
end Go.Proofs.Ytdbecmmeifdafaa

namespace Go.Proofs.Ytdbecmmeifdafaa
open Nat renaming reduceMod → zA, reduceMul → zB, reduceDiv → zC, reduceAdd → zD, reduceSub → zE, reduceEqDiff → zF, reduceBEq → zG, reduceLT → zH, reduceLeDiff → zI
open Go.RowKit
set_option linter.unusedVariables false
set_option linter.unusedSimpArgs false

attribute [-push_cast] rm
theorem new0_fn (code : List Int) (hby : BytesOk code) : FnP Try.prog tyT 87 [.c (.lst 5 (dU code))] [.int .i64 (nI code 0), .int .i64 (mH code 0)] := by
  rw [nI_0, mH_0]
  exact l1New_fn code hby
set_option maxRecDepth 20000 in
set_option maxHeartbeats 4000000 in
theorem draw_rec_fn (code : List Int) (hby : BytesOk code) : FnQ0 Try.prog tyT 35 [.c (.lst 5 (dU code))] [.c (.lst 66 (dII (ilv (anyP code 0)))), .c (DI (drF code (viK code 0) (anyJ code 0))), .c (.int .i64 (viV code 0))] [some (66, 0, viK code 0), some (2, drO code (viK code 0) (anyJ code 0), drN code (viK code 0) (anyJ code 0)), none] := by
  have hcl := hby.1
  have hP := new0_fn code hby
  have hB := cvis_fn code hby 0
  refine FnQ0_of (fn := Try.f35) (rs := [.tmp 2, .tmp 3, .tmp 4]) tyOk tyPos Try.func35 (by kernel_rfl) rfl rfl (by rw [Try.ntmps35]; exact Nat.le_of_ble_eq_true rfl) rfl (by simp only [szA, List.mem_cons, List.not_mem_nil, or_false, forall_eq_or_imp, forall_eq, VT.cells, szL]; try decide) rfl ?_
  rw [Try.ntmps35]
  simp only [push_cast, ↓brB_true, ↓brB_false, ↓reduceIte, zA, zB, zC, zD, zE, zF, zG, zH, zI, reduceCtorEq]
  refine awp_seq' fun K hK => ?_
  refine awp_region tyOk tyPos [] rfl ?_
  simp only [push_cast, ↓brB_true, ↓brB_false, ↓reduceIte, zA, zB, zC, zD, zE, zF, zG, zH, zI, reduceCtorEq]
  repeat' apply And.intro
  all_goals try exact gB
  all_goals first | (refine hK _ ?_; clear hK K) | (simp only [push_cast]; done)
  refine awp_seq' fun K hK => ?_
  refine awp_regionP 7 tyOk tyPos [] rfl ?_
  simp only [push_cast, ↓brB_true, ↓brB_false, ↓reduceIte, zA, zB, zC, zD, zE, zF, zG, zH, zI, reduceCtorEq]
  all_goals repeat' (first | (apply brB_mk <;> (intro hg; (try simp only [push_cast] at hg))) | (refine ⟨_, hP, ?_⟩; simp only [push_cast, ↓brB_true, ↓brB_false, ↓reduceIte, zA, zB, zC, zD, zE, zF, zG, zH, zI, reduceCtorEq]) | apply And.intro | (intro hg; (try simp only [push_cast] at hg)))
  all_goals try exact gA
  all_goals first | (refine hK _ ?_; clear hK K) | (simp only [push_cast]; done)
  refine awp_seq' fun K hK => ?_
  refine awp_regionQ 9 tyOk tyPos [] rfl ?_
  all_goals simp only [push_cast, ↓brB_true, ↓brB_false, ↓reduceIte, zA, zB, zC, zD, zE, zF, zG, zH, zI, reduceCtorEq]
  all_goals repeat' (first | (apply brB_mk <;> (intro hg; (try simp only [push_cast] at hg))) | (refine ⟨_, _, _, hB, ?_⟩; (try simp only [push_cast, ↓brB_true, ↓brB_false, ↓reduceIte, zA, zB, zC, zD, zE, zF, zG, zH, zI, reduceCtorEq])) | apply And.intro | (intro hg; (try simp only [push_cast] at hg)))
  all_goals try exact gA
  all_goals first | (refine hK _ ?_; clear hK K) | (simp only [push_cast]; done)
  refine awp_ret ?_
  (try simp only [AThen, ABlk])
  refine ⟨Or.inl rfl, ?_⟩
  simp only [RetO0, RetOk, resVars, resVar, push_cast, ↓brB_true, ↓brB_false, ↓reduceIte, zA, zB, zC, zD, zE, zF, zG, zH, zI, reduceCtorEq]
  trace_state
end Go.Proofs.Ytdbecmmeifdafaa

namespace Go.Proofs.Ytdbecmmeifdafaa
open Nat renaming reduceMod → zA, reduceMul → zB, reduceDiv → zC, reduceAdd → zD, reduceSub → zE, reduceEqDiff → zF, reduceBEq → zG, reduceLT → zH, reduceLeDiff → zI
open Go.RowKit
set_option linter.unusedVariables false
set_option linter.unusedSimpArgs false

attribute [-push_cast] rm
def pairAt (ps : List Pr) (n : Int) (i : Nat) : Bool := isSetB (gp ps i).ask n && isSetB (gp ps i).give n
theorem pairAt_no1 {ps : List Pr} {n : Int} {i : Nat} (h : isSetB (gp ps i).ask n = false) : pairAt ps n i = false := by unfold pairAt; rw [h]; rfl
theorem pairAt_no2 {ps : List Pr} {n : Int} {i : Nat} (h : isSetB (gp ps i).give n = false) : pairAt ps n i = false := by unfold pairAt; rw [h, Bool.and_false]
theorem pairAt_yes {ps : List Pr} {n : Int} {i : Nat} (h : isSetB (gp ps i).ask n = true) (h2 : isSetB (gp ps i).give n = true) : pairAt ps n i = true := by unfold pairAt; rw [h, h2]; rfl
def arB (ps : List Pr) (n : Int) : Bool := decide (ps.length ≤ 4) && allB ps.length (pairAt ps n)
def prsB (ps : List Pr) (n : Int) : Bool := decide (0 ≤ n ∧ n ≤ 256) && arB ps n
theorem arB_no {ps : List Pr} {n : Int} {i : Nat} (hi : i < ps.length) (h : pairAt ps n i = false) : arB ps n = false := by unfold arB; rw [allB_false hi h, Bool.and_false]
theorem arB_len {ps : List Pr} {n : Int} (h : ∀ i, i < ps.length → pairAt ps n i = true) : arB ps n = decide (ps.length ≤ 4) := by unfold arB; rw [allB_true h, Bool.and_true]
theorem prsB_no1 {ps : List Pr} {n : Int} (h : ¬ (0 ≤ n ∧ n ≤ 256)) : prsB ps n = false := by unfold prsB; rw [decide_eq_false h]; rfl
theorem prsB_no2 {ps : List Pr} {n : Int} (h : arB ps n = false) : prsB ps n = false := by unfold prsB; rw [h, Bool.and_false]
theorem prsB_yes {ps : List Pr} {n : Int} (h : 0 ≤ n ∧ n ≤ 256) : prsB ps n = arB ps n := by unfold prsB; rw [decide_eq_true h]; rfl
theorem arB_no4 {ps : List Pr} {n : Int} (h : ¬ ps.length ≤ 4) : arB ps n = false := by unfold arB; rw [decide_eq_false h]; rfl
set_option maxRecDepth 20000 in
set_option maxHeartbeats 4000000 in
theorem SetOkS_fn (s : List Int) (hs : s.length ≤ 1048576) (n : Int) (hn : 0 ≤ n ∧ n ≤ 256) : Fn Try.prog tyT 92 [.c (DI s), .c (.int .i64 n)] [.c (.bool (isSetB s n))] := by
  refine Fn_of (fn := Try.f92) (ts := [4]) Try.func92 (by kernel_rfl) rfl rfl (by rw [Try.ntmps92]; exact Nat.le_of_ble_eq_true rfl) rfl (by simp only [szA, List.mem_cons, List.not_mem_nil, or_false, forall_eq_or_imp, forall_eq, VT.cells, szL]; try decide) ?_
  rw [Try.ntmps92]
  simp only [push_cast, ↓brB_true, ↓brB_false, ↓reduceIte, zA, zB, zC, zD, zE, zF, zG, zH, zI, reduceCtorEq]
  refine awp_seq' fun K hK => ?_
  refine awp_region tyOk tyPos [] rfl ?_
  simp only [push_cast, ↓brB_true, ↓brB_false, ↓reduceIte, zA, zB, zC, zD, zE, zF, zG, zH, zI, reduceCtorEq]
  repeat' apply And.intro
  all_goals try exact gB
  all_goals first | (refine hK _ ?_; clear hK K) | (simp only [push_cast]; done)
  refine awp_seq' fun K hK => ?_
  refine awp_regionN false tyOk tyPos ?_ rfl ?_
  · kernel_rfl
  all_goals refine seqE_cut 2 fun K9 hK9 => ?_
  all_goals simp only [push_cast, ↓brB_true, ↓brB_false, ↓reduceIte, zA, zB, zC, zD, zE, zF, zG, zH, zI, reduceCtorEq]
  all_goals repeat' (first | (apply brB_mk <;> (intro hg; (try simp only [push_cast] at hg))) | (refine ⟨_, l1In_fn _ _ _, ?_⟩; simp only [push_cast, ↓brB_true, ↓brB_false, ↓reduceIte, zA, zB, zC, zD, zE, zF, zG, zH, zI, reduceCtorEq]) | (refine ⟨_, l1Set_fn s n hs (by omega) (by omega), ?_⟩; simp only [push_cast, ↓brB_true, ↓brB_false, ↓reduceIte, zA, zB, zC, zD, zE, zF, zG, zH, zI, reduceCtorEq]) | apply And.intro | (intro hg; (try simp only [push_cast] at hg)))
  all_goals try exact gA
  all_goals first | (refine hK9 _ ?_; clear hK9 K9) | (simp only [push_cast]; done)
  all_goals refine seqE_cut 4 fun K9 hK9 => ?_
  all_goals simp only [push_cast, ↓brB_true, ↓brB_false, ↓reduceIte, zA, zB, zC, zD, zE, zF, zG, zH, zI, reduceCtorEq]
  all_goals repeat' (first | (apply brB_mk <;> (intro hg; (try simp only [push_cast] at hg))) | (refine ⟨_, l1In_fn _ _ _, ?_⟩; simp only [push_cast, ↓brB_true, ↓brB_false, ↓reduceIte, zA, zB, zC, zD, zE, zF, zG, zH, zI, reduceCtorEq]) | (refine ⟨_, l1Set_fn s n hs (by omega) (by omega), ?_⟩; simp only [push_cast, ↓brB_true, ↓brB_false, ↓reduceIte, zA, zB, zC, zD, zE, zF, zG, zH, zI, reduceCtorEq]) | apply And.intro | (intro hg; (try simp only [push_cast] at hg)))
  all_goals try exact gA
  all_goals first | (refine hK9 _ ?_; clear hK9 K9) | (simp only [push_cast]; done)
  all_goals simp only [push_cast, ↓brB_true, ↓brB_false, ↓reduceIte, zA, zB, zC, zD, zE, zF, zG, zH, zI, reduceCtorEq]
  all_goals repeat' (first | (apply brB_mk <;> (intro hg; (try simp only [push_cast] at hg))) | (refine ⟨_, l1In_fn _ _ _, ?_⟩; simp only [push_cast, ↓brB_true, ↓brB_false, ↓reduceIte, zA, zB, zC, zD, zE, zF, zG, zH, zI, reduceCtorEq]) | (refine ⟨_, l1Set_fn s n hs (by omega) (by omega), ?_⟩; simp only [push_cast, ↓brB_true, ↓brB_false, ↓reduceIte, zA, zB, zC, zD, zE, zF, zG, zH, zI, reduceCtorEq]) | apply And.intro | (intro hg; (try simp only [push_cast] at hg)))
  all_goals try exact gA
  all_goals first | (refine hK _ ?_; clear hK K) | (simp only [push_cast]; done)
  all_goals (
      refine awp_ret ?_
      (try simp only [AThen, ABlk])
      refine ⟨Or.inl rfl, ?_⟩
      simp only [RetOk, push_cast, ↓brB_true, ↓brB_false, ↓reduceIte, zA, zB, zC, zD, zE, zF, zG, zH, zI, reduceCtorEq]
      all_goals first | rfl | omega | (symm; with_reducible assumption))
set_option maxRecDepth 20000 in
set_option maxHeartbeats 4000000 in
theorem l16Has_fn (xs : List Int) (x : Int) (hl : xs.length ≤ 1048576) : Fn Try.prog tyT 93 [.c (DI xs), .c (.int .i64 x)] [.c (.bool (hasB xs x))] := by
  refine Fn_of (fn := Try.f93) (ts := [4]) Try.func93 (by kernel_rfl) rfl rfl (by rw [Try.ntmps93]; exact Nat.le_of_ble_eq_true rfl) rfl (by simp only [szA, List.mem_cons, List.not_mem_nil, or_false, forall_eq_or_imp, forall_eq, VT.cells, szL]; try decide) ?_
  rw [Try.ntmps93]
  simp only [push_cast, ↓brB_true, ↓brB_false, ↓reduceIte, zA, zB, zC, zD, zE, zF, zG, zH, zI, reduceCtorEq]
  refine awp_seq' fun K hK => ?_
  refine awp_region tyOk tyPos [] rfl ?_
  simp only [push_cast, ↓brB_true, ↓brB_false, ↓reduceIte, zA, zB, zC, zD, zE, zF, zG, zH, zI, reduceCtorEq]
  repeat' apply And.intro
  all_goals try exact gB
  all_goals first | (refine hK _ ?_; clear hK K) | (simp only [push_cast]; done)
  refine awp_seq' fun K1 hK1 => ?_
  refine awp_seq' fun K hK => ?_
  refine awp_region tyOk tyPos [] rfl ?_
  simp only [push_cast, ↓brB_true, ↓brB_false, ↓reduceIte, zA, zB, zC, zD, zE, zF, zG, zH, zI, reduceCtorEq]
  repeat' apply And.intro
  all_goals try exact gB
  all_goals first | (refine hK _ ?_; clear hK K) | (simp only [push_cast]; done)
  refine awp_block ?_
  refine awp_loopU [4,5,6,7,8,9,10,11,12,13,14,15,16,17] [] (fun (k : Nat) => [(5, .int .i64 k)]) (fun k => []) (fun k => []) (fun k => k ≤ xs.length ∧ ∀ j, j < k → ¬ gi xs j = x) (fun k => xs.length - k) 0 ?_ ⟨by omega, fun j hj => by omega⟩ ?_
  ·
    refine cov_of rfl ?_ ?_ ?_ <;> simp only [covS, covL, push_cast, ↓brB_true, ↓brB_false, ↓reduceIte, zA, zB, zC, zD, zE, zF, zG, zH, zI, reduceCtorEq]
  · rintro k ⟨hk, hall⟩ KL0 hL0
    simp only [push_cast, ↓brB_true, ↓brB_false, ↓reduceIte, zA, zB, zC, zD, zE, zF, zG, zH, zI, reduceCtorEq]
    refine awp_seq' fun K2 hK2 => ?_
    refine awp_seq' fun K hK => ?_
    refine awp_region tyOk tyPos [] rfl ?_
    simp only [push_cast, ↓brB_true, ↓brB_false, ↓reduceIte, zA, zB, zC, zD, zE, zF, zG, zH, zI, reduceCtorEq]
    repeat' apply And.intro
    all_goals try exact gB
    all_goals first | (refine hK _ ?_; clear hK K) | (simp only [push_cast]; done)
    refine awp_cond rfl (fun hc => ?_) (fun hc => ?_) <;> (try simp only [push_cast] at hc)
    ·
      refine awp_skip ?_
      (try simp only [AThen, ABlk, reduceIte, zF]); refine hK2 _ ?_
      refine awp_seq' fun K3 hK3 => ?_
      refine awp_block ?_
      refine awp_seq' fun K hK => ?_
      refine awp_region tyOk tyPos [] rfl ?_
      simp only [push_cast, ↓brB_true, ↓brB_false, ↓reduceIte, zA, zB, zC, zD, zE, zF, zG, zH, zI, reduceCtorEq]
      repeat' apply And.intro
      all_goals try exact gB
      all_goals first | (refine hK _ ?_; clear hK K) | (simp only [push_cast]; done)
      refine awp_cond rfl (fun hc => ?_) (fun hc => ?_) <;> (try simp only [push_cast] at hc)
      ·
        refine awp_seq' fun K hK => ?_
        refine awp_region tyOk tyPos [] rfl ?_
        simp only [push_cast, ↓brB_true, ↓brB_false, ↓reduceIte, zA, zB, zC, zD, zE, zF, zG, zH, zI, reduceCtorEq]
        repeat' apply And.intro
        all_goals try exact gB
        all_goals first | (refine hK _ ?_; clear hK K) | (simp only [push_cast]; done)
        refine awp_ret ?_
        (try simp only [AThen, ABlk])
        refine ⟨Or.inl rfl, ?_⟩
        simp only [RetOk, push_cast, ↓brB_true, ↓brB_false, ↓reduceIte, zA, zB, zC, zD, zE, zF, zG, zH, zI, reduceCtorEq]
        have hf : fidx xs x = k := fidx_at (by omega) hall (by omega)
        unfold hasB
        rw [hf]
        exact (decide_eq_true (by omega)).symm
      ·
        refine awp_skip ?_
        (try simp only [AThen, ABlk, reduceIte, zF]); refine hK3 _ ?_
        refine awp_region tyOk tyPos [] rfl ?_
        simp only [push_cast, ↓brB_true, ↓brB_false, ↓reduceIte, zA, zB, zC, zD, zE, zF, zG, zH, zI, reduceCtorEq]
        repeat' apply And.intro
        all_goals try exact gB
        refine hL0 _ ⟨k + 1, ⟨by omega, fun j hj => (by
            by_cases hjk : j = k
            · subst hjk; omega
            · exact hall j (by omega))⟩, by omega, ?_⟩
        refine cov_of rfl ?_ ?_ ?_ <;> simp only [covS, covL, push_cast, ↓brB_true, ↓brB_false, ↓reduceIte, zA, zB, zC, zD, zE, zF, zG, zH, zI, reduceCtorEq]
    ·
      refine awp_exit ?_
      (try simp only [AThen, ABlk, reduceIte, zF]); refine hK1 _ ?_
      refine awp_seq' fun K hK => ?_
      refine awp_region tyOk tyPos [] rfl ?_
      simp only [push_cast, ↓brB_true, ↓brB_false, ↓reduceIte, zA, zB, zC, zD, zE, zF, zG, zH, zI, reduceCtorEq]
      repeat' apply And.intro
      all_goals try exact gB
      all_goals first | (refine hK _ ?_; clear hK K) | (simp only [push_cast]; done)
      refine awp_ret ?_
      (try simp only [AThen, ABlk])
      refine ⟨Or.inl rfl, ?_⟩
      simp only [RetOk, push_cast, ↓brB_true, ↓brB_false, ↓reduceIte, zA, zB, zC, zD, zE, zF, zG, zH, zI, reduceCtorEq]
      unfold hasB
      rw [fidx_none (fun j hj => hall j (by omega))]
      exact (decide_eq_false (by omega)).symm
set_option maxRecDepth 20000 in
set_option maxHeartbeats 4000000 in
theorem w6Has_fn (xs : List Int) (x : Int) (hl : xs.length ≤ 1048576) : Fn Try.prog tyT 41 [.c (DI xs), .c (.int .i64 x)] [.c (.bool (hasB xs x))] := by
  refine Fn_of (fn := Try.f41) (ts := [4]) Try.func41 (by kernel_rfl) rfl rfl (by rw [Try.ntmps41]; exact Nat.le_of_ble_eq_true rfl) rfl (by simp only [szA, List.mem_cons, List.not_mem_nil, or_false, forall_eq_or_imp, forall_eq, VT.cells, szL]; try decide) ?_
  rw [Try.ntmps41]
  simp only [push_cast, ↓brB_true, ↓brB_false, ↓reduceIte, zA, zB, zC, zD, zE, zF, zG, zH, zI, reduceCtorEq]
  refine awp_seq' fun K hK => ?_
  refine awp_region tyOk tyPos [] rfl ?_
  simp only [push_cast, ↓brB_true, ↓brB_false, ↓reduceIte, zA, zB, zC, zD, zE, zF, zG, zH, zI, reduceCtorEq]
  repeat' apply And.intro
  all_goals try exact gB
  all_goals first | (refine hK _ ?_; clear hK K) | (simp only [push_cast]; done)
  refine awp_seq' fun K1 hK1 => ?_
  refine awp_seq' fun K hK => ?_
  refine awp_region tyOk tyPos [] rfl ?_
  simp only [push_cast, ↓brB_true, ↓brB_false, ↓reduceIte, zA, zB, zC, zD, zE, zF, zG, zH, zI, reduceCtorEq]
  repeat' apply And.intro
  all_goals try exact gB
  all_goals first | (refine hK _ ?_; clear hK K) | (simp only [push_cast]; done)
  refine awp_block ?_
  refine awp_loopU [4,5,6,7,8,9,10,11,12,13,14,15,16,17] [] (fun (k : Nat) => [(5, .int .i64 k)]) (fun k => []) (fun k => []) (fun k => k ≤ xs.length ∧ ∀ j, j < k → ¬ gi xs j = x) (fun k => xs.length - k) 0 ?_ ⟨by omega, fun j hj => by omega⟩ ?_
  ·
    refine cov_of rfl ?_ ?_ ?_ <;> simp only [covS, covL, push_cast, ↓brB_true, ↓brB_false, ↓reduceIte, zA, zB, zC, zD, zE, zF, zG, zH, zI, reduceCtorEq]
  · rintro k ⟨hk, hall⟩ KL0 hL0
    simp only [push_cast, ↓brB_true, ↓brB_false, ↓reduceIte, zA, zB, zC, zD, zE, zF, zG, zH, zI, reduceCtorEq]
    refine awp_seq' fun K2 hK2 => ?_
    refine awp_seq' fun K hK => ?_
    refine awp_region tyOk tyPos [] rfl ?_
    simp only [push_cast, ↓brB_true, ↓brB_false, ↓reduceIte, zA, zB, zC, zD, zE, zF, zG, zH, zI, reduceCtorEq]
    repeat' apply And.intro
    all_goals try exact gB
    all_goals first | (refine hK _ ?_; clear hK K) | (simp only [push_cast]; done)
    refine awp_cond rfl (fun hc => ?_) (fun hc => ?_) <;> (try simp only [push_cast] at hc)
    ·
      refine awp_skip ?_
      (try simp only [AThen, ABlk, reduceIte, zF]); refine hK2 _ ?_
      refine awp_seq' fun K3 hK3 => ?_
      refine awp_block ?_
      refine awp_seq' fun K hK => ?_
      refine awp_region tyOk tyPos [] rfl ?_
      simp only [push_cast, ↓brB_true, ↓brB_false, ↓reduceIte, zA, zB, zC, zD, zE, zF, zG, zH, zI, reduceCtorEq]
      repeat' apply And.intro
      all_goals try exact gB
      all_goals first | (refine hK _ ?_; clear hK K) | (simp only [push_cast]; done)
      refine awp_cond rfl (fun hc => ?_) (fun hc => ?_) <;> (try simp only [push_cast] at hc)
      ·
        refine awp_seq' fun K hK => ?_
        refine awp_region tyOk tyPos [] rfl ?_
        simp only [push_cast, ↓brB_true, ↓brB_false, ↓reduceIte, zA, zB, zC, zD, zE, zF, zG, zH, zI, reduceCtorEq]
        repeat' apply And.intro
        all_goals try exact gB
        all_goals first | (refine hK _ ?_; clear hK K) | (simp only [push_cast]; done)
        refine awp_ret ?_
        (try simp only [AThen, ABlk])
        refine ⟨Or.inl rfl, ?_⟩
        simp only [RetOk, push_cast, ↓brB_true, ↓brB_false, ↓reduceIte, zA, zB, zC, zD, zE, zF, zG, zH, zI, reduceCtorEq]
        have hf : fidx xs x = k := fidx_at (by omega) hall (by omega)
        unfold hasB
        rw [hf]
        exact (decide_eq_true (by omega)).symm
      ·
        refine awp_skip ?_
        (try simp only [AThen, ABlk, reduceIte, zF]); refine hK3 _ ?_
        refine awp_region tyOk tyPos [] rfl ?_
        simp only [push_cast, ↓brB_true, ↓brB_false, ↓reduceIte, zA, zB, zC, zD, zE, zF, zG, zH, zI, reduceCtorEq]
        repeat' apply And.intro
        all_goals try exact gB
        refine hL0 _ ⟨k + 1, ⟨by omega, fun j hj => (by
            by_cases hjk : j = k
            · subst hjk; omega
            · exact hall j (by omega))⟩, by omega, ?_⟩
        refine cov_of rfl ?_ ?_ ?_ <;> simp only [covS, covL, push_cast, ↓brB_true, ↓brB_false, ↓reduceIte, zA, zB, zC, zD, zE, zF, zG, zH, zI, reduceCtorEq]
    ·
      refine awp_exit ?_
      (try simp only [AThen, ABlk, reduceIte, zF]); refine hK1 _ ?_
      refine awp_seq' fun K hK => ?_
      refine awp_region tyOk tyPos [] rfl ?_
      simp only [push_cast, ↓brB_true, ↓brB_false, ↓reduceIte, zA, zB, zC, zD, zE, zF, zG, zH, zI, reduceCtorEq]
      repeat' apply And.intro
      all_goals try exact gB
      all_goals first | (refine hK _ ?_; clear hK K) | (simp only [push_cast]; done)
      refine awp_ret ?_
      (try simp only [AThen, ABlk])
      refine ⟨Or.inl rfl, ?_⟩
      simp only [RetOk, push_cast, ↓brB_true, ↓brB_false, ↓reduceIte, zA, zB, zC, zD, zE, zF, zG, zH, zI, reduceCtorEq]
      unfold hasB
      rw [fidx_none (fun j hj => hall j (by omega))]
      exact (decide_eq_false (by omega)).symm
set_option maxRecDepth 20000 in
set_option maxHeartbeats 4000000 in
theorem arePairs_fn (ps : List Pr) (ha : PLn 1048576 ps) (n : Int) : Fn Try.prog tyT 127 [.c (.lst 66 (dII (ilv ps))), .c (.int .i64 n)] [.c (.bool (arB ps n))] := by
  have hl := ha.1
  have hg := fun k => gp_le ha k
  have hga : ∀ k, (gp ps k).ask.length ≤ 1048576 := fun k => (hg k).ask
  have hgg : ∀ k, (gp ps k).give.length ≤ 1048576 := fun k => (hg k).give
  have hli := len_ilv ps
  refine Fn_of (fn := Try.f127) (ts := [4]) Try.func127 (by kernel_rfl) rfl rfl (by rw [Try.ntmps127]; exact Nat.le_of_ble_eq_true rfl) rfl (by simp only [szA, List.mem_cons, List.not_mem_nil, or_false, forall_eq_or_imp, forall_eq, VT.cells, szL]; try decide) ?_
  rw [Try.ntmps127]
  simp only [push_cast, ↓brB_true, ↓brB_false, ↓reduceIte, zA, zB, zC, zD, zE, zF, zG, zH, zI, reduceCtorEq]
  refine awp_seq' fun K hK => ?_
  refine awp_region tyOk tyPos [] rfl ?_
  all_goals simp only [push_cast, ↓brB_true, ↓brB_false, ↓reduceIte, zA, zB, zC, zD, zE, zF, zG, zH, zI, reduceCtorEq]
  all_goals repeat' (first | (apply brB_mk <;> (intro hg; (try simp only [push_cast] at hg))) | apply And.intro | (intro hg; (try simp only [push_cast] at hg)))
  all_goals first | exact gA | (exact getE_dII (by simp only [push_cast]; omega)) | (exact getE_dII (by omega)) | skip
  all_goals first | (refine hK _ ?_; clear hK K) | (simp only [push_cast]; done)
  refine awp_seq' fun K1 hK1 => ?_
  refine awp_seq' fun K hK => ?_
  refine awp_region tyOk tyPos [] rfl ?_
  all_goals simp only [push_cast, ↓brB_true, ↓brB_false, ↓reduceIte, zA, zB, zC, zD, zE, zF, zG, zH, zI, reduceCtorEq]
  all_goals repeat' (first | (apply brB_mk <;> (intro hg; (try simp only [push_cast] at hg))) | apply And.intro | (intro hg; (try simp only [push_cast] at hg)))
  all_goals first | exact gA | (exact getE_dII (by simp only [push_cast]; omega)) | (exact getE_dII (by omega)) | skip
  all_goals first | (refine hK _ ?_; clear hK K) | (simp only [push_cast]; done)
  refine awp_block ?_
  refine awp_loopU [4,6,9,10,11,12,13,14,15,16,17,18,19,20,21,22,23,24,25] [] (fun (k : Nat) => [(9, .int .i64 k)]) (fun k => []) (fun k => []) (fun k => k ≤ ps.length ∧ ∀ j, j < k → pairAt ps n j = true) (fun k => ps.length - k) 0 ?_ ⟨by omega, fun j hj => by omega⟩ ?_
  ·
    refine cov_of rfl ?_ ?_ ?_ <;> simp only [covS, covL, push_cast, ↓brB_true, ↓brB_false, ↓reduceIte, zA, zB, zC, zD, zE, zF, zG, zH, zI, reduceCtorEq]
  · rintro k ⟨hk, hall⟩ KL0 hL0
    simp only [push_cast, ↓brB_true, ↓brB_false, ↓reduceIte, zA, zB, zC, zD, zE, zF, zG, zH, zI, reduceCtorEq]
    refine awp_seq' fun K hK => ?_
    refine awp_region tyOk tyPos [] rfl ?_
    all_goals simp only [push_cast, ↓brB_true, ↓brB_false, ↓reduceIte, zA, zB, zC, zD, zE, zF, zG, zH, zI, reduceCtorEq]
    all_goals repeat' (first | (apply brB_mk <;> (intro hg; (try simp only [push_cast] at hg))) | apply And.intro | (intro hg; (try simp only [push_cast] at hg)))
    all_goals first | exact gA | (exact getE_dII (by simp only [push_cast]; omega)) | (exact getE_dII (by omega)) | skip
    all_goals first | (refine hK _ ?_; clear hK K) | (simp only [push_cast]; done)
    refine awp_seq' fun K2 hK2 => ?_
    refine awp_cond rfl (fun hc => ?_) (fun hc => ?_) <;> (try simp only [push_cast] at hc)
    ·
      refine awp_skip ?_
      (try simp only [AThen, ABlk, reduceIte, zF]); refine hK2 _ ?_
      refine awp_seq' fun K3 hK3 => ?_
      refine awp_block ?_
      refine awp_seq' fun K hK => ?_
      refine awp_region tyOk tyPos [] rfl ?_
      all_goals simp only [push_cast, ↓brB_true, ↓brB_false, ↓reduceIte, zA, zB, zC, zD, zE, zF, zG, zH, zI, reduceCtorEq]
      all_goals repeat' (first | (apply brB_mk <;> (intro hg; (try simp only [push_cast] at hg))) | apply And.intro | (intro hg; (try simp only [push_cast] at hg)))
      all_goals first | exact gA | (exact getE_dII (by simp only [push_cast]; omega)) | (exact getE_dII (by omega)) | skip
      all_goals first | (refine hK _ ?_; clear hK K) | (simp only [push_cast]; done)
      refine awp_seq' fun K hK => ?_
      refine awp_regionN false tyOk tyPos ?_ rfl ?_
      · kernel_rfl
      all_goals refine seqE_cut 4 fun K9 hK9 => ?_
      all_goals simp only [push_cast, ↓brB_true, ↓brB_false, ↓reduceIte, zA, zB, zC, zD, zE, zF, zG, zH, zI, reduceCtorEq]
      all_goals repeat' (first | (apply brB_mk <;> (intro hg; (try simp only [push_cast] at hg))) | (refine ⟨_, isSet_fn (gp ps k).ask n (hga k), ?_⟩; simp only [push_cast, ↓brB_true, ↓brB_false, ↓reduceIte, zA, zB, zC, zD, zE, zF, zG, zH, zI, reduceCtorEq]) | (refine ⟨_, isSet_fn (gp ps k).give n (hgg k), ?_⟩; simp only [push_cast, ↓brB_true, ↓brB_false, ↓reduceIte, zA, zB, zC, zD, zE, zF, zG, zH, zI, reduceCtorEq]) | apply And.intro | (intro hg; (try simp only [push_cast] at hg)))
      all_goals first | exact gA | (exact getE_dII (by simp only [push_cast]; omega)) | (exact getE_dII (by omega)) | skip
      all_goals first | (refine hK9 _ ?_; clear hK9 K9) | (simp only [push_cast]; done)
      all_goals refine seqE_cut 6 fun K9 hK9 => ?_
      all_goals simp only [push_cast, ↓brB_true, ↓brB_false, ↓reduceIte, zA, zB, zC, zD, zE, zF, zG, zH, zI, reduceCtorEq]
      all_goals repeat' (first | (apply brB_mk <;> (intro hg; (try simp only [push_cast] at hg))) | (refine ⟨_, isSet_fn (gp ps k).ask n (hga k), ?_⟩; simp only [push_cast, ↓brB_true, ↓brB_false, ↓reduceIte, zA, zB, zC, zD, zE, zF, zG, zH, zI, reduceCtorEq]) | (refine ⟨_, isSet_fn (gp ps k).give n (hgg k), ?_⟩; simp only [push_cast, ↓brB_true, ↓brB_false, ↓reduceIte, zA, zB, zC, zD, zE, zF, zG, zH, zI, reduceCtorEq]) | apply And.intro | (intro hg; (try simp only [push_cast] at hg)))
      all_goals first | exact gA | (exact getE_dII (by simp only [push_cast]; omega)) | (exact getE_dII (by omega)) | skip
      all_goals first | (refine hK9 _ ?_; clear hK9 K9) | (simp only [push_cast]; done)
      all_goals simp only [push_cast, ↓brB_true, ↓brB_false, ↓reduceIte, zA, zB, zC, zD, zE, zF, zG, zH, zI, reduceCtorEq]
      all_goals repeat' (first | (apply brB_mk <;> (intro hg; (try simp only [push_cast] at hg))) | (refine ⟨_, isSet_fn (gp ps k).ask n (hga k), ?_⟩; simp only [push_cast, ↓brB_true, ↓brB_false, ↓reduceIte, zA, zB, zC, zD, zE, zF, zG, zH, zI, reduceCtorEq]) | (refine ⟨_, isSet_fn (gp ps k).give n (hgg k), ?_⟩; simp only [push_cast, ↓brB_true, ↓brB_false, ↓reduceIte, zA, zB, zC, zD, zE, zF, zG, zH, zI, reduceCtorEq]) | apply And.intro | (intro hg; (try simp only [push_cast] at hg)))
      all_goals first | exact gA | (exact getE_dII (by simp only [push_cast]; omega)) | (exact getE_dII (by omega)) | skip
      all_goals first | (refine hK _ ?_; clear hK K) | (simp only [push_cast]; done)
      all_goals refine awp_cond rfl (fun hc => ?_) (fun hc => ?_)
      all_goals (first | (cases hc; done) | skip)
      all_goals (try simp only [push_cast] at hc)
      all_goals try (
          refine awp_seq' fun K hK => ?_
          refine awp_region tyOk tyPos [] rfl ?_
          all_goals simp only [push_cast, ↓brB_true, ↓brB_false, ↓reduceIte, zA, zB, zC, zD, zE, zF, zG, zH, zI, reduceCtorEq]
          all_goals repeat' (first | (apply brB_mk <;> (intro hg; (try simp only [push_cast] at hg))) | apply And.intro | (intro hg; (try simp only [push_cast] at hg)))
          all_goals first | exact gA | (exact getE_dII (by simp only [push_cast]; omega)) | (exact getE_dII (by omega)) | skip
          all_goals first | (refine hK _ ?_; clear hK K) | (simp only [push_cast]; done)
          refine awp_ret ?_
          (try simp only [AThen, ABlk])
          refine ⟨Or.inl rfl, ?_⟩
          simp only [RetOk, push_cast, ↓brB_true, ↓brB_false, ↓reduceIte, zA, zB, zC, zD, zE, zF, zG, zH, zI, reduceCtorEq]
          first | exact (arB_no (i := k) (by omega) (pairAt_no1 (by with_reducible assumption))).symm | exact (arB_no (i := k) (by omega) (pairAt_no2 (by with_reducible assumption))).symm
          done)
      refine awp_skip ?_
      (try simp only [AThen, ABlk, reduceIte, zF]); refine hK3 _ ?_
      refine awp_region tyOk tyPos [] rfl ?_
      all_goals simp only [push_cast, ↓brB_true, ↓brB_false, ↓reduceIte, zA, zB, zC, zD, zE, zF, zG, zH, zI, reduceCtorEq]
      all_goals repeat' (first | (apply brB_mk <;> (intro hg; (try simp only [push_cast] at hg))) | apply And.intro | (intro hg; (try simp only [push_cast] at hg)))
      all_goals first | exact gA | (exact getE_dII (by simp only [push_cast]; omega)) | (exact getE_dII (by omega)) | skip
      refine hL0 _ ⟨k + 1, ⟨by omega, fun j hj => (by
          by_cases hjk : j = k
          · subst hjk; exact pairAt_yes (by with_reducible assumption) (by with_reducible assumption)
          · exact hall j (by omega))⟩, by omega, ?_⟩
      refine cov_of rfl ?_ ?_ ?_ <;> simp only [covS, covL, push_cast, ↓brB_true, ↓brB_false, ↓reduceIte, zA, zB, zC, zD, zE, zF, zG, zH, zI, reduceCtorEq]
    ·
      refine awp_exit ?_
      have hkk : k = ps.length := by omega
      subst hkk
      (try simp only [AThen, ABlk, reduceIte, zF]); refine hK1 _ ?_
      refine awp_seq' fun K hK => ?_
      refine awp_region tyOk tyPos [] rfl ?_
      all_goals simp only [push_cast, ↓brB_true, ↓brB_false, ↓reduceIte, zA, zB, zC, zD, zE, zF, zG, zH, zI, reduceCtorEq]
      all_goals repeat' (first | (apply brB_mk <;> (intro hg; (try simp only [push_cast] at hg))) | apply And.intro | (intro hg; (try simp only [push_cast] at hg)))
      all_goals first | exact gA | (exact getE_dII (by simp only [push_cast]; omega)) | (exact getE_dII (by omega)) | skip
      all_goals first | (refine hK _ ?_; clear hK K) | (simp only [push_cast]; done)
      refine awp_ret ?_
      (try simp only [AThen, ABlk])
      refine ⟨Or.inl rfl, ?_⟩
      simp only [RetOk, push_cast, ↓brB_true, ↓brB_false, ↓reduceIte, zA, zB, zC, zD, zE, zF, zG, zH, zI, reduceCtorEq]
      rw [arB_len hall]
      all_goals first | rfl | (simp; done) | (refine decide_eq_decide.2 ?_; omega) | (symm; refine decide_eq_decide.2 ?_; omega)
set_option maxRecDepth 20000 in
set_option maxHeartbeats 4000000 in
theorem PairsOkS_fn (ps : List Pr) (ha : PLn 1048576 ps) (n : Int) : Fn Try.prog tyT 38 [.c (.lst 66 (dII (ilv ps))), .c (.int .i64 n)] [.c (.bool (prsB ps n))] := by
  have hl := ha.1
  have hg := fun k => gp_le ha k
  have hga : ∀ k, (gp ps k).ask.length ≤ 1048576 := fun k => (hg k).ask
  have hgg : ∀ k, (gp ps k).give.length ≤ 1048576 := fun k => (hg k).give
  have hli := len_ilv ps
  refine Fn_of (fn := Try.f38) (ts := [4]) Try.func38 (by kernel_rfl) rfl rfl (by rw [Try.ntmps38]; exact Nat.le_of_ble_eq_true rfl) rfl (by simp only [szA, List.mem_cons, List.not_mem_nil, or_false, forall_eq_or_imp, forall_eq, VT.cells, szL]; try decide) ?_
  rw [Try.ntmps38]
  simp only [push_cast, ↓brB_true, ↓brB_false, ↓reduceIte, zA, zB, zC, zD, zE, zF, zG, zH, zI, reduceCtorEq]
  refine awp_seq' fun K hK => ?_
  refine awp_region tyOk tyPos [] rfl ?_
  all_goals simp only [push_cast, ↓brB_true, ↓brB_false, ↓reduceIte, zA, zB, zC, zD, zE, zF, zG, zH, zI, reduceCtorEq]
  all_goals repeat' (first | (apply brB_mk <;> (intro hg; (try simp only [push_cast] at hg))) | apply And.intro | (intro hg; (try simp only [push_cast] at hg)))
  all_goals first | exact gA | (exact getE_dII (by simp only [push_cast]; omega)) | (exact getE_dII (by omega)) | skip
  all_goals first | (refine hK _ ?_; clear hK K) | (simp only [push_cast]; done)
  refine awp_seq' fun K1 hK1 => ?_
  refine awp_seq' fun K hK => ?_
  refine awp_regionN false tyOk tyPos ?_ rfl ?_
  · kernel_rfl
  all_goals refine seqE_cut 2 fun K9 hK9 => ?_
  all_goals simp only [push_cast, ↓brB_true, ↓brB_false, ↓reduceIte, zA, zB, zC, zD, zE, zF, zG, zH, zI, reduceCtorEq]
  all_goals repeat' (first | (apply brB_mk <;> (intro hg; (try simp only [push_cast] at hg))) | (refine ⟨_, l1In_fn n 0 256, ?_⟩; simp only [push_cast, ↓brB_true, ↓brB_false, ↓reduceIte, zA, zB, zC, zD, zE, zF, zG, zH, zI, reduceCtorEq]) | apply And.intro | (intro hg; (try simp only [push_cast] at hg)))
  all_goals first | exact gA | (exact getE_dII (by simp only [push_cast]; omega)) | (exact getE_dII (by omega)) | skip
  all_goals first | (refine hK9 _ ?_; clear hK9 K9) | (simp only [push_cast]; done)
  all_goals simp only [push_cast, ↓brB_true, ↓brB_false, ↓reduceIte, zA, zB, zC, zD, zE, zF, zG, zH, zI, reduceCtorEq]
  all_goals repeat' (first | (apply brB_mk <;> (intro hg; (try simp only [push_cast] at hg))) | (refine ⟨_, l1In_fn n 0 256, ?_⟩; simp only [push_cast, ↓brB_true, ↓brB_false, ↓reduceIte, zA, zB, zC, zD, zE, zF, zG, zH, zI, reduceCtorEq]) | apply And.intro | (intro hg; (try simp only [push_cast] at hg)))
  all_goals first | exact gA | (exact getE_dII (by simp only [push_cast]; omega)) | (exact getE_dII (by omega)) | skip
  all_goals first | (refine hK _ ?_; clear hK K) | (simp only [push_cast]; done)
  all_goals refine awp_cond rfl (fun hc => ?_) (fun hc => ?_)
  all_goals (first | (cases hc; done) | skip)
  all_goals (try simp only [push_cast] at hc)
  all_goals try (
      refine awp_seq' fun K hK => ?_
      refine awp_region tyOk tyPos [] rfl ?_
      all_goals simp only [push_cast, ↓brB_true, ↓brB_false, ↓reduceIte, zA, zB, zC, zD, zE, zF, zG, zH, zI, reduceCtorEq]
      all_goals repeat' (first | (apply brB_mk <;> (intro hg; (try simp only [push_cast] at hg))) | apply And.intro | (intro hg; (try simp only [push_cast] at hg)))
      all_goals first | exact gA | (exact getE_dII (by simp only [push_cast]; omega)) | (exact getE_dII (by omega)) | skip
      all_goals first | (refine hK _ ?_; clear hK K) | (simp only [push_cast]; done)
      refine awp_ret ?_
      (try simp only [AThen, ABlk])
      refine ⟨Or.inl rfl, ?_⟩
      simp only [RetOk, push_cast, ↓brB_true, ↓brB_false, ↓reduceIte, zA, zB, zC, zD, zE, zF, zG, zH, zI, reduceCtorEq]
      all_goals first | exact (prsB_no1 (by omega)).symm | exact (prsB_no2 (arB_no4 (by omega))).symm
      done)
  refine awp_skip ?_
  (try simp only [AThen, ABlk, reduceIte, zF]); refine hK1 _ ?_
  refine awp_seq' fun K2 hK2 => ?_
  refine awp_seq' fun K hK => ?_
  refine awp_region tyOk tyPos [] rfl ?_
  all_goals simp only [push_cast, ↓brB_true, ↓brB_false, ↓reduceIte, zA, zB, zC, zD, zE, zF, zG, zH, zI, reduceCtorEq]
  all_goals repeat' (first | (apply brB_mk <;> (intro hg; (try simp only [push_cast] at hg))) | apply And.intro | (intro hg; (try simp only [push_cast] at hg)))
  all_goals first | exact gA | (exact getE_dII (by simp only [push_cast]; omega)) | (exact getE_dII (by omega)) | skip
  all_goals first | (refine hK _ ?_; clear hK K) | (simp only [push_cast]; done)
  refine awp_block ?_
  refine awp_loopU [4,5,9,14,15,16,17,18,19,20,21,22,23,24,25,26,27,28,29,30,31,32,33,34,35,36,37] [] (fun (k : Nat) => [(5, .int .i64 k)]) (fun k => []) (fun k => []) (fun k => k ≤ ps.length ∧ ∀ j, j < k → pairAt ps n j = true) (fun k => ps.length - k) 0 ?_ ⟨by omega, fun j hj => by omega⟩ ?_
  ·
    refine cov_of rfl ?_ ?_ ?_ <;> simp only [covS, covL, push_cast, ↓brB_true, ↓brB_false, ↓reduceIte, zA, zB, zC, zD, zE, zF, zG, zH, zI, reduceCtorEq]
  · rintro k ⟨hk, hall⟩ KL0 hL0
    simp only [push_cast, ↓brB_true, ↓brB_false, ↓reduceIte, zA, zB, zC, zD, zE, zF, zG, zH, zI, reduceCtorEq]
    refine awp_seq' fun K3 hK3 => ?_
    refine awp_seq' fun K hK => ?_
    refine awp_region tyOk tyPos [] rfl ?_
    all_goals simp only [push_cast, ↓brB_true, ↓brB_false, ↓reduceIte, zA, zB, zC, zD, zE, zF, zG, zH, zI, reduceCtorEq]
    all_goals repeat' (first | (apply brB_mk <;> (intro hg; (try simp only [push_cast] at hg))) | apply And.intro | (intro hg; (try simp only [push_cast] at hg)))
    all_goals first | exact gA | (exact getE_dII (by simp only [push_cast]; omega)) | (exact getE_dII (by omega)) | skip
    all_goals first | (refine hK _ ?_; clear hK K) | (simp only [push_cast]; done)
    refine awp_cond rfl (fun hc => ?_) (fun hc => ?_) <;> (try simp only [push_cast] at hc)
    ·
      refine awp_skip ?_
      (try simp only [AThen, ABlk, reduceIte, zF]); refine hK3 _ ?_
      refine awp_seq' fun K4 hK4 => ?_
      refine awp_block ?_
      refine awp_seq' fun K hK => ?_
      refine awp_regionN false tyOk tyPos ?_ rfl ?_
      · kernel_rfl
      all_goals refine seqE_cut 7 fun K9 hK9 => ?_
      all_goals simp only [push_cast, ↓brB_true, ↓brB_false, ↓reduceIte, zA, zB, zC, zD, zE, zF, zG, zH, zI, reduceCtorEq]
      all_goals repeat' (first | (apply brB_mk <;> (intro hg; (try simp only [push_cast] at hg))) | (refine ⟨_, SetOkS_fn (gp ps k).ask (hga k) n (by omega), ?_⟩; simp only [push_cast, ↓brB_true, ↓brB_false, ↓reduceIte, zA, zB, zC, zD, zE, zF, zG, zH, zI, reduceCtorEq]) | (refine ⟨_, SetOkS_fn (gp ps k).give (hgg k) n (by omega), ?_⟩; simp only [push_cast, ↓brB_true, ↓brB_false, ↓reduceIte, zA, zB, zC, zD, zE, zF, zG, zH, zI, reduceCtorEq]) | apply And.intro | (intro hg; (try simp only [push_cast] at hg)))
      all_goals first | exact gA | (exact getE_dII (by simp only [push_cast]; omega)) | (exact getE_dII (by omega)) | skip
      all_goals first | (refine hK9 _ ?_; clear hK9 K9) | (simp only [push_cast]; done)
      all_goals refine seqE_cut 9 fun K9 hK9 => ?_
      all_goals simp only [push_cast, ↓brB_true, ↓brB_false, ↓reduceIte, zA, zB, zC, zD, zE, zF, zG, zH, zI, reduceCtorEq]
      all_goals repeat' (first | (apply brB_mk <;> (intro hg; (try simp only [push_cast] at hg))) | (refine ⟨_, SetOkS_fn (gp ps k).ask (hga k) n (by omega), ?_⟩; simp only [push_cast, ↓brB_true, ↓brB_false, ↓reduceIte, zA, zB, zC, zD, zE, zF, zG, zH, zI, reduceCtorEq]) | (refine ⟨_, SetOkS_fn (gp ps k).give (hgg k) n (by omega), ?_⟩; simp only [push_cast, ↓brB_true, ↓brB_false, ↓reduceIte, zA, zB, zC, zD, zE, zF, zG, zH, zI, reduceCtorEq]) | apply And.intro | (intro hg; (try simp only [push_cast] at hg)))
      all_goals first | exact gA | (exact getE_dII (by simp only [push_cast]; omega)) | (exact getE_dII (by omega)) | skip
      all_goals first | (refine hK9 _ ?_; clear hK9 K9) | (simp only [push_cast]; done)
      all_goals simp only [push_cast, ↓brB_true, ↓brB_false, ↓reduceIte, zA, zB, zC, zD, zE, zF, zG, zH, zI, reduceCtorEq]
      all_goals repeat' (first | (apply brB_mk <;> (intro hg; (try simp only [push_cast] at hg))) | (refine ⟨_, SetOkS_fn (gp ps k).ask (hga k) n (by omega), ?_⟩; simp only [push_cast, ↓brB_true, ↓brB_false, ↓reduceIte, zA, zB, zC, zD, zE, zF, zG, zH, zI, reduceCtorEq]) | (refine ⟨_, SetOkS_fn (gp ps k).give (hgg k) n (by omega), ?_⟩; simp only [push_cast, ↓brB_true, ↓brB_false, ↓reduceIte, zA, zB, zC, zD, zE, zF, zG, zH, zI, reduceCtorEq]) | apply And.intro | (intro hg; (try simp only [push_cast] at hg)))
      all_goals first | exact gA | (exact getE_dII (by simp only [push_cast]; omega)) | (exact getE_dII (by omega)) | skip
      all_goals first | (refine hK _ ?_; clear hK K) | (simp only [push_cast]; done)
      all_goals refine awp_cond rfl (fun hc => ?_) (fun hc => ?_)
      all_goals (first | (cases hc; done) | skip)
      all_goals (try simp only [push_cast] at hc)
      all_goals try (
          refine awp_seq' fun K hK => ?_
          refine awp_region tyOk tyPos [] rfl ?_
          all_goals simp only [push_cast, ↓brB_true, ↓brB_false, ↓reduceIte, zA, zB, zC, zD, zE, zF, zG, zH, zI, reduceCtorEq]
          all_goals repeat' (first | (apply brB_mk <;> (intro hg; (try simp only [push_cast] at hg))) | apply And.intro | (intro hg; (try simp only [push_cast] at hg)))
          all_goals first | exact gA | (exact getE_dII (by simp only [push_cast]; omega)) | (exact getE_dII (by omega)) | skip
          all_goals first | (refine hK _ ?_; clear hK K) | (simp only [push_cast]; done)
          refine awp_ret ?_
          (try simp only [AThen, ABlk])
          refine ⟨Or.inl rfl, ?_⟩
          simp only [RetOk, push_cast, ↓brB_true, ↓brB_false, ↓reduceIte, zA, zB, zC, zD, zE, zF, zG, zH, zI, reduceCtorEq]
          first | exact (prsB_no2 (arB_no (i := k) (by omega) (pairAt_no1 (by with_reducible assumption)))).symm | exact (prsB_no2 (arB_no (i := k) (by omega) (pairAt_no2 (by with_reducible assumption)))).symm
          done)
      refine awp_skip ?_
      (try simp only [AThen, ABlk, reduceIte, zF]); refine hK4 _ ?_
      refine awp_region tyOk tyPos [] rfl ?_
      all_goals simp only [push_cast, ↓brB_true, ↓brB_false, ↓reduceIte, zA, zB, zC, zD, zE, zF, zG, zH, zI, reduceCtorEq]
      all_goals repeat' (first | (apply brB_mk <;> (intro hg; (try simp only [push_cast] at hg))) | apply And.intro | (intro hg; (try simp only [push_cast] at hg)))
      all_goals first | exact gA | (exact getE_dII (by simp only [push_cast]; omega)) | (exact getE_dII (by omega)) | skip
      refine hL0 _ ⟨k + 1, ⟨by omega, fun j hj => (by
          by_cases hjk : j = k
          · subst hjk; exact pairAt_yes (by with_reducible assumption) (by with_reducible assumption)
          · exact hall j (by omega))⟩, by omega, ?_⟩
      refine cov_of rfl ?_ ?_ ?_ <;> simp only [covS, covL, push_cast, ↓brB_true, ↓brB_false, ↓reduceIte, zA, zB, zC, zD, zE, zF, zG, zH, zI, reduceCtorEq]
    ·
      refine awp_exit ?_
      have hkk : k = ps.length := by omega
      subst hkk
      (try simp only [AThen, ABlk, reduceIte, zF]); refine hK2 _ ?_
      refine awp_seq' fun K hK => ?_
      refine awp_region tyOk tyPos [] rfl ?_
      all_goals simp only [push_cast, ↓brB_true, ↓brB_false, ↓reduceIte, zA, zB, zC, zD, zE, zF, zG, zH, zI, reduceCtorEq]
      all_goals repeat' (first | (apply brB_mk <;> (intro hg; (try simp only [push_cast] at hg))) | apply And.intro | (intro hg; (try simp only [push_cast] at hg)))
      all_goals first | exact gA | (exact getE_dII (by simp only [push_cast]; omega)) | (exact getE_dII (by omega)) | skip
      all_goals first | (refine hK _ ?_; clear hK K) | (simp only [push_cast]; done)
      refine awp_ret ?_
      (try simp only [AThen, ABlk])
      refine ⟨Or.inl rfl, ?_⟩
      simp only [RetOk, push_cast, ↓brB_true, ↓brB_false, ↓reduceIte, zA, zB, zC, zD, zE, zF, zG, zH, zI, reduceCtorEq]
      rw [prsB_yes (by omega), arB_len hall]
      exact (decide_eq_true (by omega)).symm
end Go.Proofs.Ytdbecmmeifdafaa
