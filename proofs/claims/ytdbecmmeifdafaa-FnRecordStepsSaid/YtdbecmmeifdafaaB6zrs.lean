/- the cursor of the reference's draws: bent sets, any pairs -/
import Derived.Test.YtdbecmmeifdafaaB5zrs
namespace Go.Proofs.Ytdbecmmeifdafaa
open Nat renaming reduceMod → zA, reduceMul → zB, reduceDiv → zC, reduceAdd → zD, reduceSub → zE, reduceEqDiff → zF, reduceBEq → zG, reduceLT → zH, reduceLeDiff → zI
open Go.RowKit
set_option linter.unusedVariables false
set_option linter.unusedSimpArgs false

attribute [-push_cast] rm
def bsV (code : List Int) (j : Nat) : List Int :=
  if bl code (j + 6) 4 = 0 then dS code j 6 ++ [6] else if bl code (j + 6) 4 = 1 then dS code j 6 ++ dS code j 6 else if bl code (j + 6) 4 = 2 then dS code j 6 ++ [gi odL (bl code (j + 6 + 1) 10).toNat] else dS code j 6 ++ [-1]
def bsJ (code : List Int) (j : Nat) : Nat := if bl code (j + 6) 4 = 2 then j + 6 + 1 + 1 else j + 6 + 1
theorem bsV_le (code : List Int) (j : Nat) : (bsV code j).length ≤ 12 := by
  have := dS_le code j 6
  unfold bsV
  split
  · rw [List.length_append, List.length_singleton]; omega
  · split
    · rw [List.length_append]; omega
    · split <;> rw [List.length_append, List.length_singleton] <;> omega
set_option maxRecDepth 20000 in
set_option maxHeartbeats 4000000 in
theorem cbent_fn (code : List Int) (hby : BytesOk code) (j : Nat) : FnB Try.prog tyT 142 (cSt code j) [.c (.int .i64 6)] (cSt code (bsJ code j)) [.c (DI (bsV code j))] := by
  have hcl := hby.1
  have hB0 := cset_fn code hby j 6 (by decide)
  have hB1 := cbel_fn code hby (j + 6) 4 (by decide)
  have hr1 := bl_rg code (j + 6) (n := 4) (by decide)
  have hB2 := codd_fn code hby (j + 6 + 1)
  have hdl := dS_le code j 6
  unfold bsV bsJ
  generalize bl code (j + 6) 4 = x at hB1 hr1 ⊢
  generalize dS code j 6 = s0 at hB0 hdl ⊢
  generalize gi odL (bl code (j + 6 + 1) 10).toNat = y at hB2 ⊢
  refine FnB_of (fn := Try.f142) (rs := [.tmp 4]) tyOk tyPos Try.func142 (by kernel_rfl) rfl rfl (by rw [Try.ntmps142]; exact Nat.le_of_ble_eq_true rfl) rfl (by simp only [szA, List.mem_cons, List.not_mem_nil, or_false, forall_eq_or_imp, forall_eq, false_implies, implies_true, VT.cells, szL]; try decide) (Nat.le_of_ble_eq_true rfl) (by simp only [szL]; decide) (Nat.le_of_ble_eq_true rfl) rfl ?_
  rw [Try.ntmps142]
  simp only [push_cast, ↓brB_true, ↓brB_false, ↓reduceIte, zA, zB, zC, zD, zE, zF, zG, zH, zI, reduceCtorEq]
  refine awp_seq' fun K hK => ?_
  refine awp_region tyOk tyPos [] rfl ?_
  simp only [push_cast, ↓brB_true, ↓brB_false, ↓reduceIte, zA, zB, zC, zD, zE, zF, zG, zH, zI, reduceCtorEq]
  repeat' apply And.intro
  all_goals try exact gB
  all_goals first | (refine hK _ ?_; clear hK K) | (simp only [push_cast]; done)
  refine awp_seq' fun K hK => ?_
  refine awp_regionN false tyOk tyPos ?_ rfl ?_
  · kernel_rfl
  all_goals refine seqE_cut 3 fun K9 hK9 => ?_
  all_goals simp only [push_cast, ↓brB_true, ↓brB_false, ↓reduceIte, zA, zB, zC, zD, zE, zF, zG, zH, zI, reduceCtorEq]
  all_goals repeat' (first | (apply brB_mk <;> (intro hg; (try simp only [push_cast] at hg))) | (refine ⟨_, _, hB0, ?_⟩; simp only [push_cast, ↓brB_true, ↓brB_false, ↓reduceIte, zA, zB, zC, zD, zE, zF, zG, zH, zI, reduceCtorEq]) | apply And.intro | (intro hg; (try simp only [push_cast] at hg)))
  all_goals try exact gA
  all_goals first | (refine hK9 _ ?_; clear hK9 K9) | (simp only [push_cast]; done)
  all_goals simp only [push_cast, ↓brB_true, ↓brB_false, ↓reduceIte, zA, zB, zC, zD, zE, zF, zG, zH, zI, reduceCtorEq]
  all_goals repeat' (first | (apply brB_mk <;> (intro hg; (try simp only [push_cast] at hg))) | (refine ⟨_, _, hB0, ?_⟩; simp only [push_cast, ↓brB_true, ↓brB_false, ↓reduceIte, zA, zB, zC, zD, zE, zF, zG, zH, zI, reduceCtorEq]) | apply And.intro | (intro hg; (try simp only [push_cast] at hg)))
  all_goals try exact gA
  all_goals first | (refine hK _ ?_; clear hK K) | (simp only [push_cast]; done)
  refine awp_seq' fun K1 hK1 => ?_
  refine awp_seq' fun K hK => ?_
  refine awp_regionN false tyOk tyPos ?_ rfl ?_
  · kernel_rfl
  all_goals refine seqE_cut 2 fun K9 hK9 => ?_
  all_goals simp only [push_cast, ↓brB_true, ↓brB_false, ↓reduceIte, zA, zB, zC, zD, zE, zF, zG, zH, zI, reduceCtorEq]
  all_goals repeat' (first | (apply brB_mk <;> (intro hg; (try simp only [push_cast] at hg))) | (refine ⟨_, _, hB1, ?_⟩; simp only [push_cast, ↓brB_true, ↓brB_false, ↓reduceIte, zA, zB, zC, zD, zE, zF, zG, zH, zI, reduceCtorEq]) | apply And.intro | (intro hg; (try simp only [push_cast] at hg)))
  all_goals try exact gA
  all_goals first | (refine hK9 _ ?_; clear hK9 K9) | (simp only [push_cast]; done)
  all_goals simp only [push_cast, ↓brB_true, ↓brB_false, ↓reduceIte, zA, zB, zC, zD, zE, zF, zG, zH, zI, reduceCtorEq]
  all_goals repeat' (first | (apply brB_mk <;> (intro hg; (try simp only [push_cast] at hg))) | (refine ⟨_, _, hB1, ?_⟩; simp only [push_cast, ↓brB_true, ↓brB_false, ↓reduceIte, zA, zB, zC, zD, zE, zF, zG, zH, zI, reduceCtorEq]) | apply And.intro | (intro hg; (try simp only [push_cast] at hg)))
  all_goals try exact gA
  all_goals first | (refine hK _ ?_; clear hK K) | (simp only [push_cast]; done)
  refine awp_block ?_
  refine awp_seq' fun K hK => ?_
  refine awp_region tyOk tyPos [] rfl ?_
  simp only [push_cast, ↓brB_true, ↓brB_false, ↓reduceIte, zA, zB, zC, zD, zE, zF, zG, zH, zI, reduceCtorEq]
  repeat' apply And.intro
  all_goals try exact gB
  all_goals first | (refine hK _ ?_; clear hK K) | (simp only [push_cast]; done)
  refine awp_cond rfl (fun hc => ?_) (fun hc => ?_) <;> (try simp only [push_cast] at hc)
  ·
    refine awp_region tyOk tyPos [] rfl ?_
    simp only [push_cast, ↓brB_true, ↓brB_false, ↓reduceIte, zA, zB, zC, zD, zE, zF, zG, zH, zI, reduceCtorEq]
    repeat' apply And.intro
    all_goals try exact gB
    (try simp only [AThen, ABlk, reduceIte, zF]); refine hK1 _ ?_
    refine awp_seq' fun K hK => ?_
    refine awp_region tyOk tyPos [] rfl ?_
    simp only [push_cast, ↓brB_true, ↓brB_false, ↓reduceIte, zA, zB, zC, zD, zE, zF, zG, zH, zI, reduceCtorEq]
    repeat' apply And.intro
    all_goals try exact gB
    all_goals first | (refine hK _ ?_; clear hK K) | (simp only [push_cast]; done)
    refine awp_ret ?_
    (try simp only [AThen, ABlk])
    refine ⟨Or.inl rfl, ?_⟩
    simp only [RetB, RetOk, cellsB, resVars, resVar, push_cast, ↓brB_true, ↓brB_false, ↓reduceIte, zA, zB, zC, zD, zE, zF, zG, zH, zI, reduceCtorEq]
    all_goals first | (exfalso; omega) | (subst hc; exact ⟨⟨rfl, by simp⟩, rfl, rfl⟩) | (rw [beq_iff_eq] at hc; subst hc; exact ⟨⟨rfl, by simp⟩, rfl, rfl⟩) | skip
  ·
    refine awp_seq' fun K hK => ?_
    refine awp_region tyOk tyPos [] rfl ?_
    simp only [push_cast, ↓brB_true, ↓brB_false, ↓reduceIte, zA, zB, zC, zD, zE, zF, zG, zH, zI, reduceCtorEq]
    repeat' apply And.intro
    all_goals try exact gB
    all_goals first | (refine hK _ ?_; clear hK K) | (simp only [push_cast]; done)
    refine awp_cond rfl (fun hc => ?_) (fun hc => ?_) <;> (try simp only [push_cast] at hc)
    ·
      refine awp_region tyOk tyPos [] rfl ?_
      simp only [push_cast, ↓brB_true, ↓brB_false, ↓reduceIte, zA, zB, zC, zD, zE, zF, zG, zH, zI, reduceCtorEq]
      repeat' apply And.intro
      all_goals try exact gB
      (try simp only [AThen, ABlk, reduceIte, zF]); refine hK1 _ ?_
      refine awp_seq' fun K hK => ?_
      refine awp_region tyOk tyPos [] rfl ?_
      simp only [push_cast, ↓brB_true, ↓brB_false, ↓reduceIte, zA, zB, zC, zD, zE, zF, zG, zH, zI, reduceCtorEq]
      repeat' apply And.intro
      all_goals try exact gB
      all_goals first | (refine hK _ ?_; clear hK K) | (simp only [push_cast]; done)
      refine awp_ret ?_
      (try simp only [AThen, ABlk])
      refine ⟨Or.inl rfl, ?_⟩
      simp only [RetB, RetOk, cellsB, resVars, resVar, push_cast, ↓brB_true, ↓brB_false, ↓reduceIte, zA, zB, zC, zD, zE, zF, zG, zH, zI, reduceCtorEq]
      all_goals first | (exfalso; omega) | (subst hc; exact ⟨⟨rfl, by simp⟩, rfl, rfl⟩) | (rw [beq_iff_eq] at hc; subst hc; exact ⟨⟨rfl, by simp⟩, rfl, rfl⟩) | skip
    ·
      refine awp_seq' fun K hK => ?_
      refine awp_region tyOk tyPos [] rfl ?_
      simp only [push_cast, ↓brB_true, ↓brB_false, ↓reduceIte, zA, zB, zC, zD, zE, zF, zG, zH, zI, reduceCtorEq]
      repeat' apply And.intro
      all_goals try exact gB
      all_goals first | (refine hK _ ?_; clear hK K) | (simp only [push_cast]; done)
      refine awp_cond rfl (fun hc => ?_) (fun hc => ?_) <;> (try simp only [push_cast] at hc)
      ·
        refine awp_regionN false tyOk tyPos ?_ rfl ?_
        · kernel_rfl
        all_goals refine seqE_cut 3 fun K9 hK9 => ?_
        all_goals simp only [push_cast, ↓brB_true, ↓brB_false, ↓reduceIte, zA, zB, zC, zD, zE, zF, zG, zH, zI, reduceCtorEq]
        all_goals repeat' (first | (apply brB_mk <;> (intro hg; (try simp only [push_cast] at hg))) | (refine ⟨_, _, hB2, ?_⟩; simp only [push_cast, ↓brB_true, ↓brB_false, ↓reduceIte, zA, zB, zC, zD, zE, zF, zG, zH, zI, reduceCtorEq]) | apply And.intro | (intro hg; (try simp only [push_cast] at hg)))
        all_goals try exact gA
        all_goals first | (refine hK9 _ ?_; clear hK9 K9) | (simp only [push_cast]; done)
        all_goals simp only [push_cast, ↓brB_true, ↓brB_false, ↓reduceIte, zA, zB, zC, zD, zE, zF, zG, zH, zI, reduceCtorEq]
        all_goals repeat' (first | (apply brB_mk <;> (intro hg; (try simp only [push_cast] at hg))) | (refine ⟨_, _, hB2, ?_⟩; simp only [push_cast, ↓brB_true, ↓brB_false, ↓reduceIte, zA, zB, zC, zD, zE, zF, zG, zH, zI, reduceCtorEq]) | apply And.intro | (intro hg; (try simp only [push_cast] at hg)))
        all_goals try exact gA
        (try simp only [AThen, ABlk, reduceIte, zF]); refine hK1 _ ?_
        refine awp_seq' fun K hK => ?_
        refine awp_region tyOk tyPos [] rfl ?_
        simp only [push_cast, ↓brB_true, ↓brB_false, ↓reduceIte, zA, zB, zC, zD, zE, zF, zG, zH, zI, reduceCtorEq]
        repeat' apply And.intro
        all_goals try exact gB
        all_goals first | (refine hK _ ?_; clear hK K) | (simp only [push_cast]; done)
        refine awp_ret ?_
        (try simp only [AThen, ABlk])
        refine ⟨Or.inl rfl, ?_⟩
        simp only [RetB, RetOk, cellsB, resVars, resVar, push_cast, ↓brB_true, ↓brB_false, ↓reduceIte, zA, zB, zC, zD, zE, zF, zG, zH, zI, reduceCtorEq]
        all_goals first | (exfalso; omega) | (subst hc; exact ⟨⟨rfl, by simp⟩, rfl, rfl⟩) | (rw [beq_iff_eq] at hc; subst hc; exact ⟨⟨rfl, by simp⟩, rfl, rfl⟩) | skip
      ·
        refine awp_seq' fun K hK => ?_
        refine awp_region tyOk tyPos [] rfl ?_
        simp only [push_cast, ↓brB_true, ↓brB_false, ↓reduceIte, zA, zB, zC, zD, zE, zF, zG, zH, zI, reduceCtorEq]
        repeat' apply And.intro
        all_goals try exact gB
        all_goals first | (refine hK _ ?_; clear hK K) | (simp only [push_cast]; done)
        refine awp_cond rfl (fun hc => ?_) (fun hc => ?_)
        rotate_left
        · exfalso; first | (cases hc; done) | (simp only [push_cast] at hc; done) | (simp only [push_cast] at hc; omega) | omega
        refine awp_region tyOk tyPos [] rfl ?_
        simp only [push_cast, ↓brB_true, ↓brB_false, ↓reduceIte, zA, zB, zC, zD, zE, zF, zG, zH, zI, reduceCtorEq]
        repeat' apply And.intro
        all_goals try exact gB
        (try simp only [AThen, ABlk, reduceIte, zF]); refine hK1 _ ?_
        refine awp_seq' fun K hK => ?_
        refine awp_region tyOk tyPos [] rfl ?_
        simp only [push_cast, ↓brB_true, ↓brB_false, ↓reduceIte, zA, zB, zC, zD, zE, zF, zG, zH, zI, reduceCtorEq]
        repeat' apply And.intro
        all_goals try exact gB
        all_goals first | (refine hK _ ?_; clear hK K) | (simp only [push_cast]; done)
        refine awp_ret ?_
        (try simp only [AThen, ABlk])
        refine ⟨Or.inl rfl, ?_⟩
        simp only [RetB, RetOk, cellsB, resVars, resVar, push_cast, ↓brB_true, ↓brB_false, ↓reduceIte, zA, zB, zC, zD, zE, zF, zG, zH, zI, reduceCtorEq]
        all_goals first | (exfalso; omega) | (subst hc; exact ⟨⟨rfl, by simp⟩, rfl, rfl⟩) | (rw [beq_iff_eq] at hc; subst hc; exact ⟨⟨rfl, by simp⟩, rfl, rfl⟩) | skip
def fzN (code : List Int) : Nat → Nat → Nat → Nat
  | 0, _, _ => 0
  | f + 1, l, j => if (l : Int) < 4 + bl code j 2 then fzN code f (l + 1) (j + 1) + 1 else 0
def fzP (n : Nat) : List Pr := List.replicate n ⟨[], []⟩
theorem fzP_s (n : Nat) : fzP (n + 1) = fzP n ++ [⟨[], []⟩] := List.replicate_succ'
theorem fzP_len (n : Nat) : (fzP n).length = n := List.length_replicate
def fzT (code : List Int) (l j : Nat) (t : Nat) : Prop := ∀ i, i < t → ((l + i : Nat) : Int) < 4 + bl code (j + i) 2
theorem fzN_T {code : List Int} : ∀ (f l j t : Nat), 6 ≤ l + f → fzT code l j t → ¬ ((l + t : Nat) : Int) < 4 + bl code (j + t) 2 → fzN code f l j = t
  | 0, l, j, 0, _, _, _ => rfl
  | 0, l, j, t + 1, hf, h, _ => by
    have h1 := h 0 (by omega)
    have h2 := bl_rg code (j + 0) (n := 2) (by decide)
    omega
  | f + 1, l, j, 0, _, _, hn => by
    unfold fzN
    rw [if_neg (by simpa using hn)]
  | f + 1, l, j, t + 1, hf, h, hn => by
    unfold fzN
    have h0 := h 0 (by omega)
    rw [if_pos (by simpa using h0), fzN_T f (l + 1) (j + 1) t (by omega) (fun i hi => by have := h (i + 1) (by omega); rw [show l + (i + 1) = l + 1 + i from by omega, show j + (i + 1) = j + 1 + i from by omega] at this; exact this) (by rw [show l + 1 + t = l + (t + 1) from by omega, show j + 1 + t = j + (t + 1) from by omega]; exact hn)]
theorem fzT_s {code : List Int} {l j t : Nat} (h : fzT code l j t) (h2 : ((l + t : Nat) : Int) < 4 + bl code (j + t) 2) : fzT code l j (t + 1) := fun i hi => by
  rcases Nat.lt_or_ge i t with h3 | h3
  · exact h i h3
  · rw [show i = t by omega]; exact h2
def anyP (code : List Int) (j : Nat) : List Pr :=
  if oc code (dwJ code j) 8 = true then
    if bl code (dwJ code j + 1) 3 = 0 then dwP code j ++ [⟨bsV code (dwJ code j + 1 + 1), []⟩]
    else if bl code (dwJ code j + 1) 3 = 1 then dwP code j ++ [⟨[], bsV code (dwJ code j + 1 + 1)⟩]
    else dwP code j ++ fzP (fzN code 6 (dwP code j).length (dwJ code j + 1 + 1))
  else dwP code j
def anyJ (code : List Int) (j : Nat) : Nat :=
  if oc code (dwJ code j) 8 = true then
    if bl code (dwJ code j + 1) 3 = 0 then bsJ code (dwJ code j + 1 + 1)
    else if bl code (dwJ code j + 1) 3 = 1 then bsJ code (dwJ code j + 1 + 1)
    else dwJ code j + 1 + 1 + fzN code 6 (dwP code j).length (dwJ code j + 1 + 1) + 1
  else dwJ code j + 1
theorem dwP_le (code : List Int) (j : Nat) : (dwP code j).length ≤ 4 := by
  have h := bl_rg code j (n := 4) (by decide)
  have h2 := prs_len code (j + 1) (dwK code j)
  unfold dwK at h2
  unfold dwP dwK
  split
  · rw [List.length_append, List.length_singleton]; omega
  · omega
set_option maxRecDepth 20000 in
set_option maxHeartbeats 4000000 in
theorem cany_fn (code : List Int) (hby : BytesOk code) (j : Nat) : FnB Try.prog tyT 123 (cSt code j) [.c (.int .i64 6)] (cSt code (anyJ code j)) [.c (.lst 66 (dII (ilv (anyP code j))))] := by
  have hcl := hby.1
  have hB0 := l16Draw_fn code hby j
  have hB1 := conce_fn code hby (dwJ code j) 8 (by decide)
  have hB2 := cbel_fn code hby (dwJ code j + 1) 3 (by decide)
  have hr2 := bl_rg code (dwJ code j + 1) (n := 3) (by decide)
  have hB3 := cbent_fn code hby (dwJ code j + 1 + 1)
  have hbl := bsV_le code (dwJ code j + 1 + 1)
  have hpl := dwP_le code j
  unfold anyP anyJ
  generalize dwP code j = ps at hB0 hpl ⊢
  generalize dwJ code j = j1 at *
  generalize bl code (j1 + 1) 3 = x at hB2 hr2 ⊢
  generalize oc code j1 8 = o at hB1 ⊢
  refine FnB_of (fn := Try.f123) (rs := [.tmp 4]) tyOk tyPos Try.func123 (by kernel_rfl) rfl rfl (by rw [Try.ntmps123]; exact Nat.le_of_ble_eq_true rfl) rfl (by simp only [szA, List.mem_cons, List.not_mem_nil, or_false, forall_eq_or_imp, forall_eq, false_implies, implies_true, VT.cells, szL]; try decide) (Nat.le_of_ble_eq_true rfl) (by simp only [szL]; decide) (Nat.le_of_ble_eq_true rfl) rfl ?_
  rw [Try.ntmps123]
  simp only [push_cast, ↓brB_true, ↓brB_false, ↓reduceIte, zA, zB, zC, zD, zE, zF, zG, zH, zI, reduceCtorEq]
  refine awp_seq' fun K hK => ?_
  refine awp_region tyOk tyPos [] rfl ?_
  simp only [push_cast, ↓brB_true, ↓brB_false, ↓reduceIte, zA, zB, zC, zD, zE, zF, zG, zH, zI, reduceCtorEq]
  repeat' apply And.intro
  all_goals try exact gB
  all_goals first | (refine hK _ ?_; clear hK K) | (simp only [push_cast]; done)
  refine awp_seq' fun K hK => ?_
  refine awp_regionN false tyOk tyPos ?_ rfl ?_
  · kernel_rfl
  all_goals refine seqE_cut 3 fun K9 hK9 => ?_
  all_goals simp only [push_cast, ↓brB_true, ↓brB_false, ↓reduceIte, zA, zB, zC, zD, zE, zF, zG, zH, zI, reduceCtorEq]
  all_goals repeat' (first | (apply brB_mk <;> (intro hg; (try simp only [push_cast] at hg))) | (refine ⟨_, _, hB0, ?_⟩; simp only [push_cast, ↓brB_true, ↓brB_false, ↓reduceIte, zA, zB, zC, zD, zE, zF, zG, zH, zI, reduceCtorEq]) | apply And.intro | (intro hg; (try simp only [push_cast] at hg)))
  all_goals try exact gA
  all_goals first | (refine hK9 _ ?_; clear hK9 K9) | (simp only [push_cast]; done)
  all_goals simp only [push_cast, ↓brB_true, ↓brB_false, ↓reduceIte, zA, zB, zC, zD, zE, zF, zG, zH, zI, reduceCtorEq]
  all_goals repeat' (first | (apply brB_mk <;> (intro hg; (try simp only [push_cast] at hg))) | (refine ⟨_, _, hB0, ?_⟩; simp only [push_cast, ↓brB_true, ↓brB_false, ↓reduceIte, zA, zB, zC, zD, zE, zF, zG, zH, zI, reduceCtorEq]) | apply And.intro | (intro hg; (try simp only [push_cast] at hg)))
  all_goals try exact gA
  all_goals first | (refine hK _ ?_; clear hK K) | (simp only [push_cast]; done)
  refine awp_seq' fun K1 hK1 => ?_
  refine awp_seq' fun K hK => ?_
  refine awp_regionN false tyOk tyPos ?_ rfl ?_
  · kernel_rfl
  all_goals refine seqE_cut 2 fun K9 hK9 => ?_
  all_goals simp only [push_cast, ↓brB_true, ↓brB_false, ↓reduceIte, zA, zB, zC, zD, zE, zF, zG, zH, zI, reduceCtorEq]
  all_goals repeat' (first | (apply brB_mk <;> (intro hg; (try simp only [push_cast] at hg))) | (refine ⟨_, _, hB1, ?_⟩; simp only [push_cast, ↓brB_true, ↓brB_false, ↓reduceIte, zA, zB, zC, zD, zE, zF, zG, zH, zI, reduceCtorEq]) | apply And.intro | (intro hg; (try simp only [push_cast] at hg)))
  all_goals try exact gA
  all_goals first | (refine hK9 _ ?_; clear hK9 K9) | (simp only [push_cast]; done)
  all_goals simp only [push_cast, ↓brB_true, ↓brB_false, ↓reduceIte, zA, zB, zC, zD, zE, zF, zG, zH, zI, reduceCtorEq]
  all_goals repeat' (first | (apply brB_mk <;> (intro hg; (try simp only [push_cast] at hg))) | (refine ⟨_, _, hB1, ?_⟩; simp only [push_cast, ↓brB_true, ↓brB_false, ↓reduceIte, zA, zB, zC, zD, zE, zF, zG, zH, zI, reduceCtorEq]) | apply And.intro | (intro hg; (try simp only [push_cast] at hg)))
  all_goals try exact gA
  all_goals first | (refine hK _ ?_; clear hK K) | (simp only [push_cast]; done)
  refine awp_cond rfl (fun hc => ?_) (fun hc => ?_) <;> (try simp only [push_cast] at hc)
  ·
    refine awp_seq' fun K hK => ?_
    refine awp_regionN false tyOk tyPos ?_ rfl ?_
    · kernel_rfl
    all_goals refine seqE_cut 2 fun K9 hK9 => ?_
    all_goals simp only [push_cast, ↓brB_true, ↓brB_false, ↓reduceIte, zA, zB, zC, zD, zE, zF, zG, zH, zI, reduceCtorEq]
    all_goals repeat' (first | (apply brB_mk <;> (intro hg; (try simp only [push_cast] at hg))) | (refine ⟨_, _, hB2, ?_⟩; simp only [push_cast, ↓brB_true, ↓brB_false, ↓reduceIte, zA, zB, zC, zD, zE, zF, zG, zH, zI, reduceCtorEq]) | apply And.intro | (intro hg; (try simp only [push_cast] at hg)))
    all_goals try exact gA
    all_goals first | (refine hK9 _ ?_; clear hK9 K9) | (simp only [push_cast]; done)
    all_goals simp only [push_cast, ↓brB_true, ↓brB_false, ↓reduceIte, zA, zB, zC, zD, zE, zF, zG, zH, zI, reduceCtorEq]
    all_goals repeat' (first | (apply brB_mk <;> (intro hg; (try simp only [push_cast] at hg))) | (refine ⟨_, _, hB2, ?_⟩; simp only [push_cast, ↓brB_true, ↓brB_false, ↓reduceIte, zA, zB, zC, zD, zE, zF, zG, zH, zI, reduceCtorEq]) | apply And.intro | (intro hg; (try simp only [push_cast] at hg)))
    all_goals try exact gA
    all_goals first | (refine hK _ ?_; clear hK K) | (simp only [push_cast]; done)
    refine awp_block ?_
    refine awp_seq' fun K hK => ?_
    refine awp_region tyOk tyPos [] rfl ?_
    simp only [push_cast, ↓brB_true, ↓brB_false, ↓reduceIte, zA, zB, zC, zD, zE, zF, zG, zH, zI, reduceCtorEq]
    repeat' apply And.intro
    all_goals try exact gB
    all_goals first | (refine hK _ ?_; clear hK K) | (simp only [push_cast]; done)
    refine awp_cond rfl (fun hc => ?_) (fun hc => ?_) <;> (try simp only [push_cast] at hc)
    ·
      refine awp_regionN false tyOk tyPos ?_ rfl ?_
      · kernel_rfl
      all_goals refine seqE_cut 4 fun K9 hK9 => ?_
      all_goals simp only [push_cast, ↓brB_true, ↓brB_false, ↓reduceIte, zA, zB, zC, zD, zE, zF, zG, zH, zI, reduceCtorEq]
      all_goals repeat' (first | (apply brB_mk <;> (intro hg; (try simp only [push_cast] at hg))) | (refine ⟨_, _, hB3, ?_⟩; simp only [push_cast, ↓brB_true, ↓brB_false, ↓reduceIte, zA, zB, zC, zD, zE, zF, zG, zH, zI, reduceCtorEq]) | apply And.intro | (intro hg; (try simp only [push_cast] at hg)))
      all_goals try exact gA
      all_goals first | (refine hK9 _ ?_; clear hK9 K9) | (simp only [push_cast]; done)
      all_goals simp only [push_cast, ↓brB_true, ↓brB_false, ↓reduceIte, zA, zB, zC, zD, zE, zF, zG, zH, zI, reduceCtorEq]
      all_goals repeat' (first | (apply brB_mk <;> (intro hg; (try simp only [push_cast] at hg))) | (refine ⟨_, _, hB3, ?_⟩; simp only [push_cast, ↓brB_true, ↓brB_false, ↓reduceIte, zA, zB, zC, zD, zE, zF, zG, zH, zI, reduceCtorEq]) | apply And.intro | (intro hg; (try simp only [push_cast] at hg)))
      all_goals try exact gA
      (try simp only [AThen, ABlk, reduceIte, zF]); refine hK1 _ ?_
      refine awp_seq' fun K hK => ?_
      refine awp_region tyOk tyPos [] rfl ?_
      simp only [push_cast, ↓brB_true, ↓brB_false, ↓reduceIte, zA, zB, zC, zD, zE, zF, zG, zH, zI, reduceCtorEq]
      repeat' apply And.intro
      all_goals try exact gB
      all_goals first | (refine hK _ ?_; clear hK K) | (simp only [push_cast]; done)
      refine awp_ret ?_
      (try simp only [AThen, ABlk])
      refine ⟨Or.inl rfl, ?_⟩
      simp only [RetB, RetOk, cellsB, resVars, resVar, push_cast, ↓brB_true, ↓brB_false, ↓reduceIte, zA, zB, zC, zD, zE, zF, zG, zH, zI, reduceCtorEq]
      all_goals first
        | (have ho9 : o = true := by with_reducible assumption
           subst hc
           subst ho9
           refine ⟨⟨?_, ?_⟩, rfl, rfl⟩
           · show _ = dII (ilv (ps ++ [_])); first | (rw [ilv_snoc, dII_snoc2]; done) | (rw [ilv_snoc, dII_snoc2]; rfl)
           · show _ = (ps ++ [_]).length * 2; first | (rw [List.length_append]; done) | (rw [List.length_append]; rfl))
        | (have ho9 : o = true := by with_reducible assumption
           subst hx2
           subst ho9
           refine ⟨⟨?_, ?_⟩, ?_, ?_⟩
           · show _ = dII (ilv (ps ++ fzP (fzN _ _ _ _))); rw [hfz]
           · show _ = (ps ++ fzP (fzN _ _ _ _)).length * 2; rw [hfz, List.length_append, fzP_len]
           · show _ = nI code (_ + fzN _ _ _ _ + 1); rw [hfz]
           · show _ = mH code (_ + fzN _ _ _ _ + 1); rw [hfz])
        | (have ho9 : o = false := by with_reducible assumption
           subst ho9
           exact ⟨⟨rfl, rfl⟩, rfl, rfl⟩)
        | (have ho9 : o = false := by with_reducible assumption
           subst ho9
           exact ⟨rfl, rfl⟩)
        | skip
    ·
      refine awp_seq' fun K hK => ?_
      refine awp_region tyOk tyPos [] rfl ?_
      simp only [push_cast, ↓brB_true, ↓brB_false, ↓reduceIte, zA, zB, zC, zD, zE, zF, zG, zH, zI, reduceCtorEq]
      repeat' apply And.intro
      all_goals try exact gB
      all_goals first | (refine hK _ ?_; clear hK K) | (simp only [push_cast]; done)
      refine awp_cond rfl (fun hc => ?_) (fun hc => ?_) <;> (try simp only [push_cast] at hc)
      ·
        refine awp_regionN false tyOk tyPos ?_ rfl ?_
        · kernel_rfl
        all_goals refine seqE_cut 4 fun K9 hK9 => ?_
        all_goals simp only [push_cast, ↓brB_true, ↓brB_false, ↓reduceIte, zA, zB, zC, zD, zE, zF, zG, zH, zI, reduceCtorEq]
        all_goals repeat' (first | (apply brB_mk <;> (intro hg; (try simp only [push_cast] at hg))) | (refine ⟨_, _, hB3, ?_⟩; simp only [push_cast, ↓brB_true, ↓brB_false, ↓reduceIte, zA, zB, zC, zD, zE, zF, zG, zH, zI, reduceCtorEq]) | apply And.intro | (intro hg; (try simp only [push_cast] at hg)))
        all_goals try exact gA
        all_goals first | (refine hK9 _ ?_; clear hK9 K9) | (simp only [push_cast]; done)
        all_goals simp only [push_cast, ↓brB_true, ↓brB_false, ↓reduceIte, zA, zB, zC, zD, zE, zF, zG, zH, zI, reduceCtorEq]
        all_goals repeat' (first | (apply brB_mk <;> (intro hg; (try simp only [push_cast] at hg))) | (refine ⟨_, _, hB3, ?_⟩; simp only [push_cast, ↓brB_true, ↓brB_false, ↓reduceIte, zA, zB, zC, zD, zE, zF, zG, zH, zI, reduceCtorEq]) | apply And.intro | (intro hg; (try simp only [push_cast] at hg)))
        all_goals try exact gA
        (try simp only [AThen, ABlk, reduceIte, zF]); refine hK1 _ ?_
        refine awp_seq' fun K hK => ?_
        refine awp_region tyOk tyPos [] rfl ?_
        simp only [push_cast, ↓brB_true, ↓brB_false, ↓reduceIte, zA, zB, zC, zD, zE, zF, zG, zH, zI, reduceCtorEq]
        repeat' apply And.intro
        all_goals try exact gB
        all_goals first | (refine hK _ ?_; clear hK K) | (simp only [push_cast]; done)
        refine awp_ret ?_
        (try simp only [AThen, ABlk])
        refine ⟨Or.inl rfl, ?_⟩
        simp only [RetB, RetOk, cellsB, resVars, resVar, push_cast, ↓brB_true, ↓brB_false, ↓reduceIte, zA, zB, zC, zD, zE, zF, zG, zH, zI, reduceCtorEq]
        all_goals first
          | (have ho9 : o = true := by with_reducible assumption
             subst hc
             subst ho9
             refine ⟨⟨?_, ?_⟩, rfl, rfl⟩
             · show _ = dII (ilv (ps ++ [_])); first | (rw [ilv_snoc, dII_snoc2]; done) | (rw [ilv_snoc, dII_snoc2]; rfl)
             · show _ = (ps ++ [_]).length * 2; first | (rw [List.length_append]; done) | (rw [List.length_append]; rfl))
          | (have ho9 : o = true := by with_reducible assumption
             subst hx2
             subst ho9
             refine ⟨⟨?_, ?_⟩, ?_, ?_⟩
             · show _ = dII (ilv (ps ++ fzP (fzN _ _ _ _))); rw [hfz]
             · show _ = (ps ++ fzP (fzN _ _ _ _)).length * 2; rw [hfz, List.length_append, fzP_len]
             · show _ = nI code (_ + fzN _ _ _ _ + 1); rw [hfz]
             · show _ = mH code (_ + fzN _ _ _ _ + 1); rw [hfz])
          | (have ho9 : o = false := by with_reducible assumption
             subst ho9
             exact ⟨⟨rfl, rfl⟩, rfl, rfl⟩)
          | (have ho9 : o = false := by with_reducible assumption
             subst ho9
             exact ⟨rfl, rfl⟩)
          | skip
      ·
        refine awp_seq' fun K hK => ?_
        refine awp_region tyOk tyPos [] rfl ?_
        simp only [push_cast, ↓brB_true, ↓brB_false, ↓reduceIte, zA, zB, zC, zD, zE, zF, zG, zH, zI, reduceCtorEq]
        repeat' apply And.intro
        all_goals try exact gB
        all_goals first | (refine hK _ ?_; clear hK K) | (simp only [push_cast]; done)
        refine awp_cond rfl (fun hc => ?_) (fun hc => ?_)
        rotate_left
        · exfalso; first | (cases hc; done) | (simp only [push_cast] at hc; done) | (simp only [push_cast] at hc; omega) | omega
        refine awp_block ?_
        refine awp_moveTo 66 5 672 (Nat.le_of_ble_eq_true rfl) ?_
        simp only [push_cast, ↓brB_true, ↓brB_false, ↓reduceIte, zA, zB, zC, zD, zE, zF, zG, zH, zI, reduceCtorEq]
        have hx2 : x = 2 := by omega
        refine awp_loopU [5,33,34,35,36,37,38,39,40,41,42,1000000] [672] (fun (t : Nat) => [(5, .sl 672 [] 0 (ps.length + t) 66)]) (fun t => [(1000000, [.sl 16000000 [] 0 code.length 5, .int .i64 (nI code (j1 + 1 + 1 + t)), .int .i64 (mH code (j1 + 1 + 1 + t))])]) (fun t => [(672, ⟨.ex, 66, dII (ilv (ps ++ fzP t)), none⟩), (16000000, ⟨.sh, 5, dU code, some 16000000⟩)]) (fun t => fzT code ps.length (j1 + 1 + 1) t) (fun t => 6 - t) 0 ?_ (fun i hi => absurd hi (Nat.not_lt_zero i)) ?_
        ·
          rw [show fzP 0 = [] from rfl, List.append_nil]
          refine cov_of rfl ?_ ?_ ?_ <;> simp only [covS, covL, push_cast, ↓brB_true, ↓brB_false, ↓reduceIte, zA, zB, zC, zD, zE, zF, zG, zH, zI, reduceCtorEq]
        · rintro t ht KL0 hL0
          simp only [push_cast, ↓brB_true, ↓brB_false, ↓reduceIte, zA, zB, zC, zD, zE, zF, zG, zH, zI, reduceCtorEq]
          refine awp_seq' fun K2 hK2 => ?_
          refine awp_moveTo 66 5 80 (Nat.le_of_ble_eq_true rfl) ?_
          simp only [push_cast, ↓brB_true, ↓brB_false, ↓reduceIte, zA, zB, zC, zD, zE, zF, zG, zH, zI, reduceCtorEq]
          have hB4 := cbel_fn code hby (j1 + 1 + 1 + t) 2 (by decide)
          have hr4 := bl_rg code (j1 + 1 + 1 + t) (n := 2) (by decide)
          refine awp_seq' fun K hK => ?_
          refine awp_regionN false tyOk tyPos ?_ rfl ?_
          · kernel_rfl
          all_goals refine seqE_cut 4 fun K9 hK9 => ?_
          all_goals simp only [push_cast, ↓brB_true, ↓brB_false, ↓reduceIte, zA, zB, zC, zD, zE, zF, zG, zH, zI, reduceCtorEq]
          all_goals repeat' (first | (apply brB_mk <;> (intro hg; (try simp only [push_cast] at hg))) | (refine ⟨_, _, hB4, ?_⟩; simp only [push_cast, ↓brB_true, ↓brB_false, ↓reduceIte, zA, zB, zC, zD, zE, zF, zG, zH, zI, reduceCtorEq]) | apply And.intro | (intro hg; (try simp only [push_cast] at hg)))
          all_goals try exact gA
          all_goals first | (refine hK9 _ ?_; clear hK9 K9) | (simp only [push_cast]; done)
          all_goals simp only [push_cast, ↓brB_true, ↓brB_false, ↓reduceIte, zA, zB, zC, zD, zE, zF, zG, zH, zI, reduceCtorEq]
          all_goals repeat' (first | (apply brB_mk <;> (intro hg; (try simp only [push_cast] at hg))) | (refine ⟨_, _, hB4, ?_⟩; simp only [push_cast, ↓brB_true, ↓brB_false, ↓reduceIte, zA, zB, zC, zD, zE, zF, zG, zH, zI, reduceCtorEq]) | apply And.intro | (intro hg; (try simp only [push_cast] at hg)))
          all_goals try exact gA
          all_goals first | (refine hK _ ?_; clear hK K) | (simp only [push_cast]; done)
          refine awp_cond rfl (fun hc => ?_) (fun hc => ?_) <;> (try simp only [push_cast] at hc)
          ·
            refine awp_skip ?_
            (try simp only [AThen, ABlk, reduceIte, zF]); refine hK2 _ ?_
            refine awp_block ?_
            refine awp_regionN false tyOk tyPos ?_ rfl ?_
            · kernel_rfl
            simp only [push_cast, ↓brB_true, ↓brB_false, ↓reduceIte, zA, zB, zC, zD, zE, zF, zG, zH, zI, reduceCtorEq]
            all_goals repeat' (first | (apply brB_mk <;> (intro hg; (try simp only [push_cast] at hg))) | apply And.intro | (intro hg; (try simp only [push_cast] at hg)))
            all_goals try exact gA
            refine hL0 _ ⟨t + 1, fzT_s ht (by omega), by omega, ?_⟩
            rw [fzP_s, ← List.append_assoc, ilv_snoc, dII_snoc2]
            (try rw [take_ilvN (by rw [List.length_append, fzP_len])])
            refine cov_of rfl ?_ ?_ ?_ <;> simp only [covS, covL, push_cast, ↓brB_true, ↓brB_false, ↓reduceIte, zA, zB, zC, zD, zE, zF, zG, zH, zI, reduceCtorEq]
            all_goals first | exact rfl | skip
          ·
            refine awp_exit ?_
            have hfz := fzN_T 6 ps.length (j1 + 1 + 1) t (by omega) ht (by omega)
            (try simp only [AThen, ABlk, reduceIte, zF]); refine hK1 _ ?_
            refine awp_seq' fun K hK => ?_
            refine awp_region tyOk tyPos [] rfl ?_
            simp only [push_cast, ↓brB_true, ↓brB_false, ↓reduceIte, zA, zB, zC, zD, zE, zF, zG, zH, zI, reduceCtorEq]
            repeat' apply And.intro
            all_goals try exact gB
            all_goals first | (refine hK _ ?_; clear hK K) | (simp only [push_cast]; done)
            refine awp_ret ?_
            (try simp only [AThen, ABlk])
            refine ⟨Or.inl rfl, ?_⟩
            simp only [RetB, RetOk, cellsB, resVars, resVar, push_cast, ↓brB_true, ↓brB_false, ↓reduceIte, zA, zB, zC, zD, zE, zF, zG, zH, zI, reduceCtorEq]
            all_goals first
              | (have ho9 : o = true := by with_reducible assumption
                 subst hc
                 subst ho9
                 refine ⟨⟨?_, ?_⟩, rfl, rfl⟩
                 · show _ = dII (ilv (ps ++ [_])); first | (rw [ilv_snoc, dII_snoc2]; done) | (rw [ilv_snoc, dII_snoc2]; rfl)
                 · show _ = (ps ++ [_]).length * 2; first | (rw [List.length_append]; done) | (rw [List.length_append]; rfl))
              | (have ho9 : o = true := by with_reducible assumption
                 subst hx2
                 subst ho9
                 refine ⟨⟨?_, ?_⟩, ?_, ?_⟩
                 · show _ = dII (ilv (ps ++ fzP (fzN _ _ _ _))); rw [hfz]
                 · show _ = (ps ++ fzP (fzN _ _ _ _)).length * 2; rw [hfz, List.length_append, fzP_len]
                 · show _ = nI code (_ + fzN _ _ _ _ + 1); rw [hfz]
                 · show _ = mH code (_ + fzN _ _ _ _ + 1); rw [hfz])
              | (have ho9 : o = false := by with_reducible assumption
                 subst ho9
                 exact ⟨⟨rfl, rfl⟩, rfl, rfl⟩)
              | (have ho9 : o = false := by with_reducible assumption
                 subst ho9
                 exact ⟨rfl, rfl⟩)
              | skip
  ·
    refine awp_skip ?_
    (try simp only [AThen, ABlk, reduceIte, zF]); refine hK1 _ ?_
    refine awp_seq' fun K hK => ?_
    refine awp_region tyOk tyPos [] rfl ?_
    simp only [push_cast, ↓brB_true, ↓brB_false, ↓reduceIte, zA, zB, zC, zD, zE, zF, zG, zH, zI, reduceCtorEq]
    repeat' apply And.intro
    all_goals try exact gB
    all_goals first | (refine hK _ ?_; clear hK K) | (simp only [push_cast]; done)
    refine awp_ret ?_
    (try simp only [AThen, ABlk])
    refine ⟨Or.inl rfl, ?_⟩
    simp only [RetB, RetOk, cellsB, resVars, resVar, push_cast, ↓brB_true, ↓brB_false, ↓reduceIte, zA, zB, zC, zD, zE, zF, zG, zH, zI, reduceCtorEq]
    all_goals first
      | (have ho9 : o = true := by with_reducible assumption
         subst hc
         subst ho9
         refine ⟨⟨?_, ?_⟩, rfl, rfl⟩
         · show _ = dII (ilv (ps ++ [_])); first | (rw [ilv_snoc, dII_snoc2]; done) | (rw [ilv_snoc, dII_snoc2]; rfl)
         · show _ = (ps ++ [_]).length * 2; first | (rw [List.length_append]; done) | (rw [List.length_append]; rfl))
      | (have ho9 : o = true := by with_reducible assumption
         subst hx2
         subst ho9
         refine ⟨⟨?_, ?_⟩, ?_, ?_⟩
         · show _ = dII (ilv (ps ++ fzP (fzN _ _ _ _))); rw [hfz]
         · show _ = (ps ++ fzP (fzN _ _ _ _)).length * 2; rw [hfz, List.length_append, fzP_len]
         · show _ = nI code (_ + fzN _ _ _ _ + 1); rw [hfz]
         · show _ = mH code (_ + fzN _ _ _ _ + 1); rw [hfz])
      | (have ho9 : o = false := by with_reducible assumption
         subst ho9
         exact ⟨⟨rfl, rfl⟩, rfl, rfl⟩)
      | (have ho9 : o = false := by with_reducible assumption
         subst ho9
         exact ⟨rfl, rfl⟩)
      | skip
end Go.Proofs.Ytdbecmmeifdafaa

namespace Go.Proofs.Ytdbecmmeifdafaa
open Go.RowKit
set_option linter.unusedVariables false
set_option linter.unusedSimpArgs false

section
variable {P : Program} {np : Bool} {τ : Ty} {lo : Nat} {w0 : Fz} {ow : Nat → Option Pl} {hd : Nat → Value} {bk : Nat → Nat} {st : St} {a : Act} {w : World}
end
end Go.Proofs.Ytdbecmmeifdafaa

namespace Go.Proofs.Ytdbecmmeifdafaa
open Go.RowKit
set_option linter.unusedVariables false
set_option linter.unusedSimpArgs false

section
variable {P : Program} {np : Bool} {τ : Ty} {lo : Nat} {w0 : Fz} {ow : Nat → Option Pl} {hd : Nat → Value} {bk : Nat → Nat} {st : St} {a : Act} {w : World}
def unV (τ : Ty) (st : St) : AV → AV
  | .sl d [] off len e => match lk st.r d with | some R => .sl d [] 0 (R.xs.length / sz τ e) e | none => .sl d [] off len e
  | v => v
def unS (τ : Ty) (st : St) : List AV → List AV
  | [] => []
  | v :: vs => unV τ st v :: unS τ st vs
def offV : AV → Option (TypeId × Nat × Nat)
  | .sl d [] off len e => some (e, off, len)
  | _ => none
def offS : List AV → List (Option (TypeId × Nat × Nat))
  | [] => []
  | v :: vs => offV v :: offS vs
def slV (τ : Ty) (st : St) : AV → Prop
  | .sl d [] off len e => match lk st.r d with | some R => R.o = .ex ∧ R.e = e ∧ sz τ e ≠ 0 | none => False
  | _ => True
def slOk (τ : Ty) (st : St) : List AV → Prop
  | [] => True
  | v :: vs => slV τ st v ∧ slOk τ st vs
def Shift1 (τ : Ty) (o : Option (TypeId × Nat × Nat)) (h x : Value) : Prop := match o with | some (e, off, len) => Sub (sz τ e) h off len x | none => x = h
def Shift (τ : Ty) : List (Option (TypeId × Nat × Nat)) → List Value → List Value → Prop
  | [], hs, xs => hs = [] ∧ xs = []
  | o :: os, hs, xs => ∃ h hs' x xs', hs = h :: hs' ∧ xs = x :: xs' ∧ Shift1 τ o h x ∧ Shift τ os hs' xs'
theorem unV_sound (h : RelC τ lo w0 ow hd bk st a w) {v : AV} {x : Value} (hok : slV τ st v) (hv : AvR τ w st.r st.b hd bk v x) : ∃ y, AvR τ w st.r st.b hd bk (unV τ st v) y ∧ Shift1 τ (offV v) y x := by
  unfold unV offV slV at *
  split
  · rename_i d off len e
    simp only at hok ⊢
    cases hR : lk st.r d with
    | none => rw [hR] at hok; exact hok.elim
    | some R =>
      rw [hR] at hok
      obtain ⟨ho, he, hz⟩ := hok
      simp only [AvR] at hv
      obtain ⟨hvv, hin, hsub⟩ := hv.2 R hR (by simp [okPath])
      simp only [into, Option.some.injEq] at hin
      subst hin
      have hroot := h.root _ R hR
      rw [ho] at hroot
      obtain ⟨vs, ⟨h1, n, h2, h3⟩, -⟩ := (Rp_lst (sz τ) lo).1 hroot
      rw [he] at h2
      have hn : R.xs.length / sz τ e = n := by rw [h2]; exact Nat.mul_div_cancel _ (Nat.pos_of_ne_zero hz)
      refine ⟨hd d, ?_, hsub⟩
      simp only [AvR]
      rw [hn]
      rcases h3.1.2 with ⟨hv0, h0⟩ | ⟨g, cap, cur, hv0, hb, hg, hnc, hcm, rest⟩
      · subst h0
        exact ⟨⟨_, _, _, hv0⟩, fun R' _ _ => ⟨hd d, by simp [into], none, 0, 0, none, 0, hv0, hv0, by omega, by omega, by decide, fun _ => ⟨rfl, rfl⟩, fun hh => absurd rfl hh⟩⟩
      · exact ⟨⟨_, _, _, hv0⟩, fun R' _ _ => ⟨hd d, by simp [into], _, n, cap, _, cap, hv0, hv0, by omega, hnc, hcm, fun _ => ⟨rfl, rfl⟩, fun _ => ⟨g, 0, rfl, by simp⟩⟩⟩
  · rename_i hne
    exact ⟨x, hv, rfl⟩
theorem unS_sound (h : RelC τ lo w0 ow hd bk st a w) : ∀ {vs : List AV} {xs : List Value}, slOk τ st vs → AvRL τ w st.r st.b hd bk vs xs → ∃ hs, AvRL τ w st.r st.b hd bk (unS τ st vs) hs ∧ Shift τ (offS vs) hs xs
  | [], xs, _, hv => by
    simp only [AvRL] at hv
    subst hv
    exact ⟨[], by simp only [unS, AvRL], by simp [offS, Shift]⟩
  | v :: vs, xs, hok, hv => by
    simp only [AvRL] at hv
    obtain ⟨x, xs', rfl, h1, h2⟩ := hv
    obtain ⟨hs, k1, k2⟩ := unS_sound h hok.2 h2
    obtain ⟨y, k3, k4⟩ := unV_sound h hok.1 h1
    exact ⟨y :: hs, by simp only [unS, AvRL]; exact ⟨y, hs, rfl, k3, k1⟩, by simp only [offS, Shift]; exact ⟨y, hs, x, xs', rfl, rfl, k4, k2⟩⟩
theorem Sub_trans {s : Nat} {h0 h x : Value} {n off len : Nat} (h1 : Sub s h0 0 n h) (h2 : Sub s h off len x) : Sub s h0 off len x := by
  obtain ⟨A, n0, c, A', c', e1, e2, l1, l2, l3, k1, m1⟩ := h1
  obtain ⟨B, n1, d, B', d', f1, f2, l4, l5, l6, k2, m2⟩ := h2
  rw [e2] at f1
  cases f1
  obtain ⟨rfl, rfl⟩ := k1 rfl
  exact ⟨_, n0, _, B', d', e1, f2, by omega, l5, l6, k2, m2⟩
def shV (o : Option (TypeId × Nat × Nat)) (v : AV) : AV :=
  match o with
  | some (e, off, len) => (match v with | .sl d [] 0 n e' => if e' = e then .sl d [] off len e else .dead | _ => .dead)
  | none => v
def shS : List (Option (TypeId × Nat × Nat)) → List AV → List AV
  | o :: os, v :: vs => shV o v :: shS os vs
  | _, _ => []
theorem shV_sound {rr : List (Nat × Root)} {bb : List (Nat × List AV)} {o : Option (TypeId × Nat × Nat)} {v : AV} {h x : Value} (hv : AvR τ w rr bb hd bk v h) (hs : Shift1 τ o h x) : AvR τ w rr bb hd bk (shV o v) x := by
  unfold shV
  cases o with
  | none => simp only [Shift1] at hs; subst hs; exact hv
  | some q =>
    obtain ⟨e, off, len⟩ := q
    simp only [Shift1] at hs
    simp only
    split
    · rename_i d n e'
      split
      · rename_i he
        subst he
        simp only [AvR] at hv ⊢
        refine ⟨?_, fun R hR hp => ?_⟩
        · obtain ⟨_, _, _, A', c', _, f2, _⟩ := hs
          exact ⟨_, _, _, f2⟩
        · obtain ⟨h0, k1, k2⟩ := hv.2 R hR hp
          exact ⟨h0, k1, Sub_trans k2 hs⟩
      · simp only [AvR]
    · simp only [AvR]
theorem shS_sound {rr : List (Nat × Root)} {bb : List (Nat × List AV)} : ∀ {os : List (Option (TypeId × Nat × Nat))} {vs : List AV} {hs xs : List Value}, AvRL τ w rr bb hd bk vs hs → Shift τ os hs xs → AvRL τ w rr bb hd bk (shS os vs) xs ∧ (shS os vs).length = vs.length
  | [], [], hs, xs, hv, hsh => by
    simp only [Shift] at hsh
    obtain ⟨rfl, rfl⟩ := hsh
    exact ⟨by simp only [shS, AvRL], rfl⟩
  | [], v :: vs, hs, xs, hv, hsh => by
    simp only [Shift] at hsh
    obtain ⟨rfl, rfl⟩ := hsh
    simp only [AvRL] at hv
    obtain ⟨_, _, h, _⟩ := hv
    cases h
  | o :: os, [], hs, xs, hv, hsh => by
    simp only [AvRL] at hv
    subst hv
    simp only [Shift] at hsh
    obtain ⟨_, _, _, _, h, _⟩ := hsh
    cases h
  | o :: os, v :: vs, hs, xs, hv, hsh => by
    simp only [AvRL] at hv
    obtain ⟨h, hs', rfl, h1, h2⟩ := hv
    simp only [Shift] at hsh
    obtain ⟨h', hs'', x, xs', e, rfl, h3, h4⟩ := hsh
    cases e
    obtain ⟨k1, k2⟩ := shS_sound h2 h4
    exact ⟨by simp only [shS, AvRL]; exact ⟨x, xs', rfl, shV_sound h1 h3, k1⟩, by simp [shS, k2]⟩
theorem Shift_len : ∀ {os : List (Option (TypeId × Nat × Nat))} {hs xs : List Value}, Shift τ os hs xs → hs.length = os.length ∧ xs.length = os.length
  | [], hs, xs, h => by simp only [Shift] at h; obtain ⟨rfl, rfl⟩ := h; exact ⟨rfl, rfl⟩
  | o :: os, hs, xs, h => by
    simp only [Shift] at h
    obtain ⟨h', hs', x, xs', rfl, rfl, -, h2⟩ := h
    have := Shift_len h2
    exact ⟨by simp [this.1], by simp [this.2]⟩
theorem retA_shift {rr : List (Nat × Root)} {bb : List (Nat × List AV)} {os : List (Option (TypeId × Nat × Nat))} {vs : List AV} {hs xs : List Value} (hl : vs.length = os.length) (hv : AvR τ w rr bb hd bk (retA vs) (retV hs)) (hsh : Shift τ os hs xs) : AvR τ w rr bb hd bk (retA (shS os vs)) (retV xs) := by
  have hlen := Shift_len hsh
  have conv : AvRL τ w rr bb hd bk vs hs := by
    match vs, hs, hl, hlen with
    | [], [], _, _ => simp only [AvRL]
    | [v], [h], _, _ => simp only [retA, retV] at hv; simp only [AvRL]; exact ⟨h, [], rfl, hv, rfl⟩
    | v :: v2 :: vs, h :: h2 :: hs, _, _ =>
      simp only [retA, retV, AvR] at hv
      obtain ⟨cs, e, h3⟩ := hv
      have : cs = h :: h2 :: hs := by simpa using e.symm
      rw [this] at h3
      exact h3
    | [], _ :: _, a, b => simp at a b; omega
    | _ :: _, [], a, b => simp at a b; omega
    | [_], _ :: _ :: _, a, b => simp at a b; omega
    | _ :: _ :: _, [_], a, b => simp at a b; omega
  obtain ⟨k1, k2⟩ := shS_sound conv hsh
  generalize shS os vs = us at k1 k2 ⊢
  match us, xs, k1 with
  | [], _, k1 => simp only [AvRL] at k1; subst k1; simp only [retA, retV, AvR]; exact ⟨[], rfl, by simp only [AvRL]⟩
  | [u], _, k1 =>
    simp only [AvRL] at k1
    obtain ⟨x, _, rfl, h1, rfl⟩ := k1
    simpa only [retA, retV] using h1
  | u :: u2 :: us, _, k1 =>
    have k0 := k1
    simp only [AvRL] at k1
    obtain ⟨x, _, rfl, h1, x2, xs2, rfl, h2, h3⟩ := k1
    simp only [retA, retV, AvR]
    exact ⟨_, rfl, k0⟩
def PostQ (τ : Ty) (w : World) (g : Nat) (cs : List Value) (ds' : List D) (ress : List VT) (os : List (Option (TypeId × Nat × Nat))) (e : Ending) (w' : World) : Prop :=
  ∃ hs xs, PostB τ w g cs ds' ress (.returned (retV hs)) w' ∧ e = .returned (retV xs) ∧ Shift τ os hs xs
def FnQ (P : Program) (τ : Ty) (f : FuncId) (ds : List D) (args : List VT) (ds' : List D) (ress : List VT) (os : List (Option (TypeId × Nat × Nat))) : Prop :=
  Callable P f ∧ ds'.length = ds.length ∧ ress.length = os.length ∧ ∀ (w : World) (g : Nat) (cs cargs : List Value) (ty : TypeId), w.heap[g]? = some (.cells cs.toArray ty (0, 0)) → cs.length = ds.length →
    (∀ (i : Nat) (d : D) (c : Value), ds[i]? = some d → cs[i]? = some c → Rp (sz τ) 0 w (owG g) .sh d c) → ArgsG (sz τ) 0 w (owG g) [] args cargs →
    Calls P f (Value.pointer (some ⟨g, 0, none⟩) :: cargs).toArray w (PostQ τ w g cs ds' ress os)
def RetO (τ : Ty) (rs : List ResultVar) (ds' : List D) (ress : List VT) (os : List (Option (TypeId × Nat × Nat))) (e : Exit) (st : St) : Prop := (e = .ret ∨ e = .normal) ∧
  match resVars τ st rs with
  | some (vs, ob) => ob ∧ slOk τ st vs ∧ offS vs = os ∧ RetOk τ st (unS τ st vs) ress ∧ (match lk st.b 1000000 with | some us => cellsB τ st 0 us ds' | none => False)
  | none => False
theorem FnQ_of (hτ : TyOk P τ) (hpos : TyPos τ) {f : FuncId} {fn : Func} {c : Code} {rs : List ResultVar} {ds ds' : List D} {args ress : List VT} {os : List (Option (TypeId × Nat × Nat))} (hfn : P.funcs[f]? = some fn) (hname : (fn.name == "runtime.NumGoroutine") = false) (hb : fn.body = some c) (hres : fn.results = rs.toArray) (hn : args.length + 1 ≤ fn.ntmps) (hfew : few args = true) (hs : szA τ args) (hsm : args.length < 100) (hds : szL τ ds) (h16 : ds.length ≤ 16) (hlen : ds'.length = ds.length) (hos : ress.length = os.length)
    (h : awp P τ c (RetO τ rs ds' ress os) (argStB τ fn.ntmps ds args)) : FnQ P τ f ds args ds' ress os := by
  refine ⟨⟨fn, hfn, hname, by rw [hb]; rfl⟩, hlen, hos, fun w g cs cargs ty hg hcl hrd hargs => ?_⟩
  have hst0 := argStB_sound (n := fn.ntmps) hs hfew hsm hn hds h16 hg hcl hrd hargs
  refine calls_of_wp hfn hb (Go.wp_mono (h 0 _ _ w ⟨_, _, _, hst0⟩) fun e a' w' ⟨st', ⟨ow, hd, bk, hr⟩, he, hret0⟩ => ?_)
  have hpost : a'.defers = [] ∧ ∃ v, (results fn a'.tmps).run P w' = .ok v w' ∧ PostQ τ w g cs ds' ress os (.returned v) w' := by
    split at hret0
    rotate_left
    · exact hret0.elim
    rename_i avs ob0 hrv
    obtain ⟨hob0, hsl, hof, hret, hbox⟩ := hret0
    obtain ⟨xs, hrun, hv⟩ := results_runR hτ hpos hr hres hrv hob0
    obtain ⟨hs9, k1, k2⟩ := unS_sound hr hsl hv
    exact ⟨hr.defers, _, hrun, hs9, xs, retB_post hlen h16 hg hcl hr hbox hret k1, rfl, hof ▸ k2⟩
  rcases he with rfl | rfl <;> exact hpost
theorem resV_len (τ : Ty) (t : Nat) : ∀ (ress : List VT) (j : Nat), (resV τ t j ress).length = ress.length
  | [], j => rfl
  | .c d :: xs, j => by simp [resV, resV_len τ t xs]
  | .agg ds :: xs, j => by simp [resV, resV_len τ t xs]
  | .fn _ ds :: xs, j => by simp [resV, resV_len τ t xs]
def aCallQ (P : Program) (τ : Ty) (o : Oper) (K : St → Prop) (st : St) : Prop :=
  match actBOf τ o st with
  | some (f, as9, T, cells, ds, ob) => ob ∧ ∃ ds' ress os, FnQ P τ f ds as9 ds' ress os ∧ szL τ (flat ress) ∧ (flat ress).length ≤ 16 ∧ K ((resS (dstN o) 0 (flat ress) (st.setB T (mergeB cells ds'))).put o.dst (retA (shS os (resV τ (dstN o) 0 ress))))
  | none => False
theorem aCallQ_sound {o : Oper} {K : St → Prop} {Q : Exit → Act → World → Prop} {K' : Act → World → Prop} (hdn : ∀ k, o.dst = some k → k < a.tmps.size) (h : Rel τ lo w0 st a w) (ha : aCallQ P τ o K st)
    (hK : ∀ st' x w', K st' → Rel τ lo w0 st' (a.put o.dst x) w' → K' (a.put o.dst x) w') : o.wp P a w K' Q := by
  unfold aCallQ at ha
  split at ha
  rotate_left
  · exact ha.elim
  rename_i f as9 T cells ds ob hact
  obtain ⟨hob, ds', ress, os, ⟨⟨fn, hfn, hname, hbody⟩, hlen, hos, hcall⟩, hsz, h16, hK1⟩ := ha
  unfold actBOf at hact
  cases hc : callOf o with
  | none => rw [hc] at hact; cases hact
  | some y =>
    obtain ⟨f', args, ts⟩ := y
    rw [hc] at hact
    simp only at hact
    split at hact
    rotate_left
    · cases hact
    rename_i T' vs hvs
    cases hT : lk st.b T' with
    | none => rw [hT] at hact; cases hact
    | some cells' =>
      rw [hT] at hact
      simp only at hact
      split at hact
      rotate_left
      · cases hact
      rename_i ds0 ob1 as0 ob2 hds has
      simp only [Option.some.injEq, Prod.mk.injEq] at hact
      obtain ⟨rfl, rfl, rfl, rfl, rfl, rfl⟩ := hact
      obtain ⟨ow, hd, bk, hr⟩ := h
      have hev : AvRL τ w st.r st.b hd bk (args.toList.map (ev st)) (args.toList.map a.eval) := AvRL_iff.2 ⟨by simp, fun i v x hv hx => by
        rw [List.getElem?_map] at hv hx
        cases hk : args.toList[i]? with
        | none => rw [hk] at hv; cases hv
        | some p => rw [hk] at hv hx; cases hv; cases hx; exact ev_sound hr p⟩
      rw [hvs] at hev
      simp only [AvRL] at hev
      obtain ⟨x0, xs, hxs, hx0, hxs2⟩ := hev
      simp only [AvR] at hx0
      have hptr := hx0.2 ⟨_, hT⟩
      subst hptr
      obtain ⟨cs, ty, b1, b2, b3, b4, b5⟩ := boxB_sound hr hT hds hob.1
      have hA := argsB_sound hr hT hxs2 has hob.2
      have hC := hcall w (bk T') cs xs ty b1 b2 b5 hA
      have hexec : (execOp a.eval o).run P w = .ok (.enter f' (args.toList.map a.eval).toArray) w := by
        obtain ⟨dst, op, oty, pos, after, guard⟩ := o
        unfold callOf at hc
        simp only at hc
        split at hc
        · rename_i c
          split at hc
          · rename_i f' hcal
            cases hc
            obtain ⟨callee, args', ats⟩ := c
            simp only at hcal
            subst hcal
            rw [execOp_call_go]
            unfold callFunc
            have h1 : ¬ fn.name = "runtime.NumGoroutine" := by simpa using hname
            have h2 : ¬ fn.body = none := by cases hb : fn.body with
              | none => rw [hb] at hbody; simp at hbody
              | some c => simp
            have h3 : Array.map a.eval args' = (args'.toList.map a.eval).toArray := by cases args'; simp
            simp [hfn, h1, h2, h3]
          · cases hc
        · cases hc
      unfold Oper.wp
      rw [hexec, hxs]
      simp only [Oper.upon]
      refine hC.mono fun e w' hpost => ?_
      obtain ⟨hs9, xs9, hpB, he9, hsh⟩ := hpost
      subst he9
      obtain ⟨z, ow', hd2, he, r1, r2⟩ := postB_sound hr hT b3 (by rw [hlen, b4]) (t := dstN o) hsz hpB
      cases he
      exact hK _ _ w' hK1 (rel_put r1 hdn (retA_shift (by rw [resV_len, hos]) r2 hsh))
def aopsQ (P : Program) (τ : Ty) (al : List Nat) (t : Nat) (K : St → Prop) : List Oper → St → Prop
  | [], st => K st
  | o :: os, st =>
    match o.guard with
    | none => if o.dst = some t then aCallQ P τ o (aopsQ P τ al t K os) st else aop P τ al o (aopsQ P τ al t K os) st
    | some (j, want) => False
theorem aopsQ_sound (hτ : TyOk P τ) (hpos : TyPos τ) {al : List Nat} {t : Nat} {all : List Oper} {K : St → Prop} {Q : Exit → Act → World → Prop} (hQ : ∀ st a w, K st → Rel τ lo w0 st a w → Q .normal a w) :
    ∀ (os : List Oper) (st : St) (a : Act) (w : World), dstOk a.tmps.size os = true → Rel τ lo w0 st a w → aopsQ P τ al t K os st → wpList P all.toArray Q os a w
  | [], st, a, w, _, h, ha => wpList_nil (hQ st a w ha h)
  | o :: os, st, a, w, hd, h, ha => by
    have hd1 : ∀ k, o.dst = some k → k < a.tmps.size := fun k hk => by
      have := List.all_eq_true.1 hd o (by simp)
      rw [hk] at this
      simpa using this
    have hd2 : dstOk a.tmps.size os = true := List.all_eq_true.2 fun x hx => List.all_eq_true.1 hd x (by simp [hx])
    refine wpList_step fun K' hK' => ?_
    simp only [aopsQ] at ha
    split at ha
    · rename_i hg
      rw [if_pos (by simp [Region.wanted, hg])]
      split at ha
      · exact aCallQ_sound hd1 h ha fun st' x w' h2 h3 => hK' _ _ (aopsQ_sound hτ hpos hQ os st' _ w' (by rw [size_put]; exact hd2) h3 h2)
      · exact aop_sound hτ hpos hd1 h ha fun st' x w' h2 h3 => hK' _ _ (aopsQ_sound hτ hpos hQ os st' _ w' (by rw [size_put]; exact hd2) h3 h2)
    · exact ha.elim
end
theorem awp_regionQ {P : Program} {τ : Ty} {Q : Exit → St → Prop} {st : St} (t : Nat) (hτ : TyOk P τ) (hpos : TyPos τ) (al : List Nat) {id : Nat} {ops : List Oper} (hd : dstOk st.n ops = true) (h : aopsQ P τ al t (Q .normal) ops st) : awp P τ (.region id ops.toArray false) Q st := fun lo w0 a w hr => by
  have hn : a.tmps.size = st.n := by obtain ⟨ow, hd, bk, h⟩ := hr; exact h.size
  refine wp_region_lit (aopsQ_sound hτ hpos (fun st a w h1 h2 => ⟨st, h2, h1⟩) ops st a w (by rw [hn]; exact hd) hr h)
section
variable {P : Program} {np : Bool} {τ : Ty} {lo : Nat} {w0 : Fz} {ow : Nat → Option Pl} {hd : Nat → Value} {bk : Nat → Nat} {st : St} {a : Act} {w : World}
theorem retR_post {ress : List VT} {st' : St} {a' : Act} {w' : World} {vs : List AV} {xs : List Value} (hr : RelC τ w.heap.size (.plain w) ow hd bk st' a' w') (hret : RetOk τ st' vs ress) (hv : AvRL τ w' st'.r st'.b hd bk vs xs) : Post τ w ress (.returned (retV xs)) w' := by
  unfold RetOk at hret
  split at hret
  · rename_i us hus
    split at hret
    · rename_i is ob hcells
      obtain ⟨cs, k1, k2⟩ := retFlat_sound (S := sz τ) (lo := w.heap.size) (ow := outOw ow is) 0 hus hv
      obtain ⟨m1, m2⟩ := retCells_sound hr hcells hret.2 hret.1 k1
      refine ⟨_, outOw ow is, rfl, hr.below.to_below, fun b hlt => ?_, fun b p hp => ?_, k2 m1 fun i d c hd hc => by rw [Nat.zero_add]; exact m2 i d c hd hc⟩
      · unfold outOw
        split
        · rename_i d q ho
          have := (hr.ge b _ (by have := hr.below.to_below.size; omega) ho (by simp)).1
          omega
        · rfl
      · unfold outOw at hp
        split at hp
        · rename_i d q ho
          split at hp
          · cases hp
            refine ⟨?_, by simp⟩
            rcases Nat.lt_or_ge b w'.heap.size with h' | h'
            · exact h'
            · rw [hr.new b h'] at ho; cases ho
          · cases hp
        · cases hp
    · exact hret.elim
  · exact hret.elim
def PostQ0 (τ : Ty) (w : World) (ress : List VT) (os : List (Option (TypeId × Nat × Nat))) (e : Ending) (w' : World) : Prop :=
  ∃ hs xs, Post τ w ress (.returned (retV hs)) w' ∧ e = .returned (retV xs) ∧ Shift τ os hs xs
def FnQ0 (P : Program) (τ : Ty) (f : FuncId) (args : List VT) (ress : List VT) (os : List (Option (TypeId × Nat × Nat))) : Prop :=
  Callable P f ∧ ress.length = os.length ∧ ∀ (w : World) (cargs : List Value), ArgsR (sz τ) w.heap.size w (fun _ => none) args cargs → Calls P f cargs.toArray w (PostQ0 τ w ress os)
def RetO0 (τ : Ty) (rs : List ResultVar) (ress : List VT) (os : List (Option (TypeId × Nat × Nat))) (e : Exit) (st : St) : Prop := (e = .ret ∨ e = .normal) ∧
  match resVars τ st rs with
  | some (vs, ob) => ob ∧ slOk τ st vs ∧ offS vs = os ∧ RetOk τ st (unS τ st vs) ress
  | none => False
theorem FnQ0_of (hτ : TyOk P τ) (hpos : TyPos τ) {f : FuncId} {fn : Func} {c : Code} {rs : List ResultVar} {args ress : List VT} {os : List (Option (TypeId × Nat × Nat))} (hfn : P.funcs[f]? = some fn) (hname : (fn.name == "runtime.NumGoroutine") = false) (hb : fn.body = some c) (hres : fn.results = rs.toArray) (hn : args.length ≤ fn.ntmps) (hfew : few args = true) (hs : szA τ args) (hos : ress.length = os.length)
    (h : awp P τ c (RetO0 τ rs ress os) (argSt τ fn.ntmps args)) : FnQ0 P τ f args ress os := by
  refine ⟨⟨fn, hfn, hname, by rw [hb]; rfl⟩, hos, fun w cargs hargs => ?_⟩
  have hstart : Rel τ w.heap.size (.plain w) (argSt τ fn.ntmps args) { tmps := cargs.toArray ++ Array.replicate (fn.ntmps - cargs.toArray.size) undef, defers := [] } w := ⟨_, _, _, argSt_sound hs hfew hn hargs⟩
  refine calls_of_wp hfn hb (Go.wp_mono (h w.heap.size (.plain w) _ w hstart) fun e a' w' ⟨st', ⟨ow, hd, bk, hr⟩, he, hret0⟩ => ?_)
  have hpost : a'.defers = [] ∧ ∃ v, (results fn a'.tmps).run P w' = .ok v w' ∧ PostQ0 τ w ress os (.returned v) w' := by
    split at hret0
    rotate_left
    · exact hret0.elim
    rename_i avs ob0 hrv
    obtain ⟨hob0, hsl, hof, hret⟩ := hret0
    obtain ⟨xs, hrun, hv⟩ := results_runR hτ hpos hr hres hrv hob0
    obtain ⟨hs9, k1, k2⟩ := unS_sound hr hsl hv
    exact ⟨hr.defers, _, hrun, hs9, xs, retR_post hr hret k1, rfl, hof ▸ k2⟩
  rcases he with rfl | rfl <;> exact hpost
def aCallQ0 (P : Program) (τ : Ty) (o : Oper) (K : St → Prop) (st : St) : Prop :=
  match callOf o with
  | some (f, args, ts) =>
    match argsOf τ st ts.toList (args.toList.map (ev st)) with
    | some (as9, ob) => ob ∧ ∃ ress os, FnQ0 P τ f as9 ress os ∧ szL τ (flat ress) ∧ (flat ress).length ≤ 16 ∧ K ((resS (dstN o) 0 (flat ress) st).put o.dst (retA (shS os (resV τ (dstN o) 0 ress))))
    | none => False
  | none => False
theorem aCallQ0_sound {o : Oper} {K : St → Prop} {Q : Exit → Act → World → Prop} {K' : Act → World → Prop} (hdn : ∀ k, o.dst = some k → k < a.tmps.size) (h : Rel τ lo w0 st a w) (ha : aCallQ0 P τ o K st)
    (hK : ∀ st' x w', K st' → Rel τ lo w0 st' (a.put o.dst x) w' → K' (a.put o.dst x) w') : o.wp P a w K' Q := by
  obtain ⟨ow, hd', bk, hr⟩ := h
  unfold aCallQ0 at ha
  split at ha
  rotate_left
  · exact ha.elim
  rename_i f args ts hc
  split at ha
  rotate_left
  · exact ha.elim
  rename_i as9 ob hargs
  obtain ⟨hob, ress, os, ⟨hcl, hos, hcall⟩, hsz, h16, hK1⟩ := ha
  have hev : AvRL τ w st.r st.b hd' bk (args.toList.map (ev st)) (args.toList.map a.eval) := AvRL_iff.2 ⟨by simp, fun i v x hv hx => by
    rw [List.getElem?_map] at hv hx
    cases hk : args.toList[i]? with
    | none => rw [hk] at hv; cases hv
    | some p => rw [hk] at hv hx; cases hv; cases hx; exact ev_sound hr p⟩
  have hA := argsOf_sound hr w.heap.size hev hargs hob
  have hC := hcall w _ hA
  unfold Oper.wp
  rw [callT_exec hc hcl]
  simp only [Oper.upon]
  refine hC.mono fun e w' hpost => ?_
  obtain ⟨hs9, xs9, hp0, he9, hsh⟩ := hpost
  subst he9
  obtain ⟨z, ow', hd2, he, r1, r2⟩ := post_sound hr (t := dstN o) hsz hp0
  cases he
  exact hK _ _ w' hK1 (rel_put r1 hdn (retA_shift (by rw [resV_len, hos]) r2 hsh))
def aopsQ0 (P : Program) (τ : Ty) (al : List Nat) (t : Nat) (K : St → Prop) : List Oper → St → Prop
  | [], st => K st
  | o :: os, st =>
    match o.guard with
    | none => if o.dst = some t then aCallQ0 P τ o (aopsQ0 P τ al t K os) st else aop P τ al o (aopsQ0 P τ al t K os) st
    | some (j, want) => False
theorem aopsQ0_sound (hτ : TyOk P τ) (hpos : TyPos τ) {al : List Nat} {t : Nat} {all : List Oper} {K : St → Prop} {Q : Exit → Act → World → Prop} (hQ : ∀ st a w, K st → Rel τ lo w0 st a w → Q .normal a w) :
    ∀ (os : List Oper) (st : St) (a : Act) (w : World), dstOk a.tmps.size os = true → Rel τ lo w0 st a w → aopsQ0 P τ al t K os st → wpList P all.toArray Q os a w
  | [], st, a, w, _, h, ha => wpList_nil (hQ st a w ha h)
  | o :: os, st, a, w, hd, h, ha => by
    have hd1 : ∀ k, o.dst = some k → k < a.tmps.size := fun k hk => by
      have := List.all_eq_true.1 hd o (by simp)
      rw [hk] at this
      simpa using this
    have hd2 : dstOk a.tmps.size os = true := List.all_eq_true.2 fun x hx => List.all_eq_true.1 hd x (by simp [hx])
    refine wpList_step fun K' hK' => ?_
    simp only [aopsQ0] at ha
    split at ha
    · rename_i hg
      rw [if_pos (by simp [Region.wanted, hg])]
      split at ha
      · exact aCallQ0_sound hd1 h ha fun st' x w' h2 h3 => hK' _ _ (aopsQ0_sound hτ hpos hQ os st' _ w' (by rw [size_put]; exact hd2) h3 h2)
      · exact aop_sound hτ hpos hd1 h ha fun st' x w' h2 h3 => hK' _ _ (aopsQ0_sound hτ hpos hQ os st' _ w' (by rw [size_put]; exact hd2) h3 h2)
    · exact ha.elim
end
theorem awp_regionQ0 {P : Program} {τ : Ty} {Q : Exit → St → Prop} {st : St} (t : Nat) (hτ : TyOk P τ) (hpos : TyPos τ) (al : List Nat) {id : Nat} {ops : List Oper} (hd : dstOk st.n ops = true) (h : aopsQ0 P τ al t (Q .normal) ops st) : awp P τ (.region id ops.toArray false) Q st := fun lo w0 a w hr => by
  have hn : a.tmps.size = st.n := by obtain ⟨ow, hd, bk, h⟩ := hr; exact h.size
  refine wp_region_lit (aopsQ0_sound hτ hpos (fun st a w h1 h2 => ⟨st, h2, h1⟩) ops st a w (by rw [hn]; exact hd) hr h)
attribute [push_cast] aCallQ0 aopsQ0 aCallQ aopsQ shS shV unS unV offS offV slOk slV
end Go.Proofs.Ytdbecmmeifdafaa
