/- the dice of the laws: draws in a row; arenas by dice -/
import Derived.Test.YtdbecmmeifdafaaDdzmb
import Derived.Test.YtdbecmmeifdafaaGWzmb
namespace Go.Proofs.Ytdbecmmeifdafaa
open Nat renaming reduceMod → zA, reduceMul → zB, reduceDiv → zC, reduceAdd → zD, reduceSub → zE, reduceEqDiff → zF, reduceBEq → zG, reduceLT → zH, reduceLeDiff → zI
open Go.RowKit
set_option linter.unusedVariables false
set_option linter.unusedSimpArgs false

theorem rm_kv {α : Type} (f : Nat → Bool) (k : Nat) (v : α) (l : List (Nat × α)) : rm f ((k, v) :: l) = if f k = true then rm f l else (k, v) :: rm f l := by
  unfold rm
  rw [List.filter_cons]
  cases f k <;> rfl
theorem rm_nl {α : Type} (f : Nat → Bool) : rm f ([] : List (Nat × α)) = [] := rfl
attribute [push_cast] rm_kv rm_nl
attribute [-push_cast] rm
/-- The dice after so many draws. -/
def nI (code : List Int) : Nat → Int
  | 0 => 0
  | j + 1 => dI1 code (nI code j)
def nH (code : List Int) (seed : Int) : Nat → Int
  | 0 => rH code seed code.length
  | j + 1 => dH (nH code seed j)
def dv (code : List Int) (seed : Int) (j : Nat) (n : Int) : Int := dR code (nI code j) (nH code seed j) n
theorem nI_rg (code : List Int) : ∀ j, 0 ≤ nI code j ∧ nI code j ≤ code.length
  | 0 => ⟨Int.le_refl _, by show (0 : Int) ≤ _; omega⟩
  | j + 1 => dI1_rg (nI_rg code j)
theorem dv_rg {code : List Int} (hby : BytesOk code) (seed : Int) (j : Nat) {n : Int} (hn : 1 ≤ n) : 0 ≤ dv code seed j n ∧ dv code seed j n < n := dR_rg hby (nI_rg code j).1 hn
theorem nI_s (code : List Int) (j : Nat) : nI code (j + 1) = dI1 code (nI code j) := rfl
theorem nH_s (code : List Int) (seed : Int) (j : Nat) : nH code seed (j + 1) = dH (nH code seed j) := rfl
attribute [irreducible] nI nH dv
@[reducible] def dSt (code : List Int) (seed : Int) (j : Nat) : List D := dDc code (nI code j) (nH code seed j)
theorem draw_fn {code : List Int} (hby : BytesOk code) (seed : Int) (j : Nat) (n : Int) (hn : 1 ≤ n) : FnB Try.prog tyT 44 (dSt code seed j) [.c (.int .i64 n)] (dSt code seed (j + 1)) [.c (.int .i64 (dv code seed j n))] :=
  by
  have h := below0_fn code hby _ (nH code seed j) (nI_rg code j) n hn
  have e1 : dI1 code (nI code j) = nI code (j + 1) := (nI_s code j).symm
  have e2 : dH (nH code seed j) = nH code seed (j + 1) := (nH_s code seed j).symm
  rw [e1, e2] at h
  unfold dv
  exact h
theorem one_addN (n : Nat) : (1 : Int) + (n : Int) = (n : Int) + 1 := Int.add_comm _ _
attribute [push_cast] one_addN Int.sub_zero
/-- The marks after t draws. -/
def mks (code : List Int) (seed : Int) (N c : Nat) : Nat → List Bool
  | 0 => List.replicate N false
  | t + 1 => (mks code seed N c t).set (dv code seed (c + t) N).toNat true
theorem mks_len (code : List Int) (seed : Int) (N c : Nat) : ∀ t, (mks code seed N c t).length = N
  | 0 => by simp [mks]
  | t + 1 => by simp [mks, mks_len code seed N c t]
def rowU (m : List Bool) : Nat → List Int
  | 0 => []
  | u + 1 => if gb m u then rowU m u ++ [(u : Int)] else rowU m u
theorem rowU_yes {m : List Bool} {u : Nat} (h : gb m u = true) : rowU m (u + 1) = rowU m u ++ [(u : Int)] := by show (if _ then _ else _) = _; rw [if_pos h]
theorem rowU_no {m : List Bool} {u : Nat} (h : ¬ gb m u = true) : rowU m (u + 1) = rowU m u := by show (if _ then _ else _) = _; rw [if_neg h]
theorem rowU_len (m : List Bool) : ∀ u, (rowU m u).length ≤ u
  | 0 => Nat.le_refl _
  | u + 1 => by
    have := rowU_len m u
    unfold rowU
    split
    · simp; omega
    · omega
def rK (code : List Int) (seed : Int) (c : Nat) : Nat := (dv code seed c 3).toNat
/-- How many draws lie ahead of row v. -/
def cA (code : List Int) (seed : Int) (j : Nat) : Nat → Nat
  | 0 => j + 1
  | v + 1 => cA code seed j v + 1 + (rK code seed (cA code seed j v) + 1) + 1
def oA (code : List Int) (seed : Int) (j : Nat) : Nat → List Int
  | 0 => []
  | v + 1 => oA code seed j v ++ [dv code seed (cA code seed j v + 1 + (rK code seed (cA code seed j v) + 1)) 2]
def xA (code : List Int) (seed : Int) (N j : Nat) : Nat → List (List Int)
  | 0 => []
  | v + 1 => xA code seed N j v ++ [rowU (mks code seed N (cA code seed j v + 1) (rK code seed (cA code seed j v) + 1)) N]
theorem oA_len (code : List Int) (seed : Int) (j : Nat) : ∀ v, (oA code seed j v).length = v
  | 0 => rfl
  | v + 1 => by simp [oA, oA_len code seed j v]
theorem xA_len (code : List Int) (seed : Int) (N j : Nat) : ∀ v, (xA code seed N j v).length = v
  | 0 => rfl
  | v + 1 => by simp [xA, xA_len code seed N j v]
def arN (code : List Int) (seed : Int) (j : Nat) (most : Int) : Nat := (dv code seed j most).toNat + 1
def arA (code : List Int) (seed : Int) (j : Nat) (most : Int) : Ar := ⟨oA code seed j (arN code seed j most), xA code seed (arN code seed j most) j (arN code seed j most)⟩
def arJ (code : List Int) (seed : Int) (j : Nat) (most : Int) : Nat := cA code seed j (arN code seed j most)
set_option maxRecDepth 20000 in
set_option maxHeartbeats 4000000 in
theorem w6Arena_fn (code : List Int) (hby : BytesOk code) (seed : Int) (j : Nat) (most : Int) (hm : 1 ≤ most ∧ most ≤ 16) : FnB Try.prog tyT 43 (dSt code seed j) [.c (.int .i64 most)] (dSt code seed (arJ code seed j most)) [.agg (dAr (arA code seed j most))] := by
  have hcl := hby.1
  have hr0 := dv_rg hby seed j hm.1
  have hB0 := draw_fn hby seed j most hm.1
  unfold arJ arA arN
  obtain ⟨n, hn⟩ : ∃ n : Nat, dv code seed j most = (n : Int) := ⟨_, (Int.toNat_of_nonneg hr0.1).symm⟩
  rw [hn] at hB0 hr0 ⊢
  rw [Int.toNat_natCast]
  unfold dAr
  refine FnB_of (fn := Try.f43) (rs := [.cell 4 30]) tyOk tyPos Try.func43 (by kernel_rfl) rfl rfl (by rw [Try.ntmps43]; exact Nat.le_of_ble_eq_true rfl) rfl (by simp only [szA, List.mem_cons, List.not_mem_nil, or_false, forall_eq_or_imp, forall_eq, VT.cells, szL]; try decide) (Nat.le_of_ble_eq_true rfl) (by simp only [szL]; decide) (Nat.le_of_ble_eq_true rfl) rfl ?_
  rw [Try.ntmps43]
  simp only [push_cast, ↓brB_true, ↓brB_false, ↓reduceIte, zA, zB, zC, zD, zE, zF, zG, zH, zI, reduceCtorEq]
  refine awp_seq' fun K hK => ?_
  refine awp_region tyOk tyPos [] rfl ?_
  simp only [push_cast, ↓brB_true, ↓brB_false, ↓reduceIte, zA, zB, zC, zD, zE, zF, zG, zH, zI, reduceCtorEq]
  repeat' apply And.intro
  all_goals first | exact True.intro | exact rfl | omega | with_reducible assumption | (simp only [List.length_set, List.length_append, List.length_replicate, List.length_cons, List.length_nil]; omega) | skip
  all_goals first | (refine hK _ ?_; clear hK K) | (simp only [push_cast]; done)
  refine awp_seq' fun K hK => ?_
  refine awp_regionN false tyOk tyPos ?_ rfl ?_
  · kernel_rfl
  all_goals refine seqE_cut 3 fun K9 hK9 => ?_
  all_goals simp only [push_cast, ↓brB_true, ↓brB_false, ↓reduceIte, zA, zB, zC, zD, zE, zF, zG, zH, zI, reduceCtorEq]
  all_goals repeat' (first | (apply brB_mk <;> (intro hg; (try simp only [push_cast] at hg))) | (refine ⟨_, _, hB0, ?_⟩; simp only [push_cast, ↓brB_true, ↓brB_false, ↓reduceIte, zA, zB, zC, zD, zE, zF, zG, zH, zI, reduceCtorEq]) | apply And.intro | (intro hg; (try simp only [push_cast] at hg)))
  all_goals first | exact True.intro | exact rfl | contradiction | omega | with_reducible assumption | skip
  all_goals first | (refine hK9 _ ?_; clear hK9 K9) | (simp only [push_cast]; done)
  all_goals simp only [push_cast, ↓brB_true, ↓brB_false, ↓reduceIte, zA, zB, zC, zD, zE, zF, zG, zH, zI, reduceCtorEq]
  all_goals repeat' (first | (apply brB_mk <;> (intro hg; (try simp only [push_cast] at hg))) | (refine ⟨_, _, hB0, ?_⟩; simp only [push_cast, ↓brB_true, ↓brB_false, ↓reduceIte, zA, zB, zC, zD, zE, zF, zG, zH, zI, reduceCtorEq]) | apply And.intro | (intro hg; (try simp only [push_cast] at hg)))
  all_goals first | exact True.intro | exact rfl | contradiction | omega | with_reducible assumption | skip
  all_goals first | (refine hK _ ?_; clear hK K) | (simp only [push_cast]; done)
  refine awp_seq' fun K hK => ?_
  refine awp_region tyOk tyPos [] rfl ?_
  simp only [push_cast, ↓brB_true, ↓brB_false, ↓reduceIte, zA, zB, zC, zD, zE, zF, zG, zH, zI, reduceCtorEq]
  repeat' apply And.intro
  all_goals first | exact True.intro | exact rfl | omega | with_reducible assumption | (simp only [List.length_set, List.length_append, List.length_replicate, List.length_cons, List.length_nil]; omega) | skip
  all_goals first | (refine hK _ ?_; clear hK K) | (simp only [push_cast]; done)
  refine awp_seq' fun K1 hK1 => ?_
  refine awp_seq' fun K hK => ?_
  refine awp_region tyOk tyPos [] rfl ?_
  simp only [push_cast, ↓brB_true, ↓brB_false, ↓reduceIte, zA, zB, zC, zD, zE, zF, zG, zH, zI, reduceCtorEq]
  repeat' apply And.intro
  all_goals first | exact True.intro | exact rfl | omega | with_reducible assumption | (simp only [List.length_set, List.length_append, List.length_replicate, List.length_cons, List.length_nil]; omega) | skip
  all_goals first | (refine hK _ ?_; clear hK K) | (simp only [push_cast]; done)
  refine awp_block ?_
  refine awp_loopU [6,7,8,9,10,11,17,18,19,20,21,22,23,24,25,26,27,28,29,30,31,32,33,34,35,36,37,38,39,40,41,42,43,44,45,46,47,48,49,50,51,52,53,54,55,56,57,58,59,60,61,62,1000000] [] (fun (v : Nat) => [(7, .int .i64 v), (6, .bp 6 0)]) (fun v => [(6, [.sl 96 [] 0 v 2, .sl 97 [] 0 v 27]), (1000000, [.sl 16000000 [] 0 code.length 5, .int .i64 (nI code (cA code seed j v)), .int .u64 (nH code seed (cA code seed j v))])]) (fun v => [(96, ⟨.ex, 2, dI (oA code seed j v), none⟩), (97, ⟨.ex, 27, dII (xA code seed (n + 1) j v), none⟩), (16000000, ⟨.sh, 5, dU code, some 16000000⟩)]) (fun v => v ≤ n + 1) (fun v => n + 1 - v) 0 ?_ (by omega) ?_
  ·
    rw [show dI (oA code seed j 0) = [] from rfl, show dII (xA code seed (n + 1) j 0) = [] from rfl, show cA code seed j 0 = j + 1 from rfl]
    refine cov_of rfl ?_ ?_ ?_ <;> simp only [covS, covL, push_cast, ↓brB_true, ↓brB_false, ↓reduceIte, zA, zB, zC, zD, zE, zF, zG, zH, zI, reduceCtorEq]
  · rintro v hv KL0 hL0
    have hol := oA_len code seed j v
    have hxl := xA_len code seed (n + 1) j v
    simp only [push_cast, ↓brB_true, ↓brB_false, ↓reduceIte, zA, zB, zC, zD, zE, zF, zG, zH, zI, reduceCtorEq]
    refine awp_seq' fun K2 hK2 => ?_
    refine awp_seq' fun K hK => ?_
    refine awp_region tyOk tyPos [] rfl ?_
    simp only [push_cast, ↓brB_true, ↓brB_false, ↓reduceIte, zA, zB, zC, zD, zE, zF, zG, zH, zI, reduceCtorEq]
    repeat' apply And.intro
    all_goals first | exact True.intro | exact rfl | omega | with_reducible assumption | (simp only [List.length_set, List.length_append, List.length_replicate, List.length_cons, List.length_nil]; omega) | skip
    all_goals first | (refine hK _ ?_; clear hK K) | (simp only [push_cast]; done)
    refine awp_cond rfl (fun hc => ?_) (fun hc => ?_) <;> (try simp only [push_cast] at hc)
    ·
      refine awp_skip ?_
      (try simp only [AThen, ABlk, reduceIte, zF]); refine hK2 _ ?_
      refine awp_seq' fun K3 hK3 => ?_
      refine awp_block ?_
      refine awp_seq' fun K hK => ?_
      refine awp_region tyOk tyPos [] rfl ?_
      simp only [push_cast, ↓brB_true, ↓brB_false, ↓reduceIte, zA, zB, zC, zD, zE, zF, zG, zH, zI, reduceCtorEq]
      repeat' apply And.intro
      all_goals first | exact True.intro | exact rfl | omega | with_reducible assumption | (simp only [List.length_set, List.length_append, List.length_replicate, List.length_cons, List.length_nil]; omega) | skip
      all_goals first | (refine hK _ ?_; clear hK K) | (simp only [push_cast]; done)
      refine awp_seq' fun K4 hK4 => ?_
      have hr1 := dv_rg hby seed (cA code seed j v) (n := 3) (by omega)
      have hB1 := draw_fn hby seed (cA code seed j v) 3 (by omega)
      rw [show dv code seed (cA code seed j v) 3 = (rK code seed (cA code seed j v) : Int) from (Int.toNat_of_nonneg hr1.1).symm] at hB1 hr1
      have hr2 := fun t => dv_rg hby seed (cA code seed j v + 1 + t) (n := (n : Int) + 1) (by omega)
      have hB2 := fun t => draw_fn hby seed (cA code seed j v + 1 + t) ((n : Int) + 1) (by omega)
      have hB3 := draw_fn hby seed (cA code seed j v + 1 + (rK code seed (cA code seed j v) + 1)) 2 (by omega)
      refine awp_seq' fun K hK => ?_
      refine awp_regionN false tyOk tyPos ?_ rfl ?_
      · kernel_rfl
      all_goals refine seqE_cut 2 fun K9 hK9 => ?_
      all_goals simp only [push_cast, ↓brB_true, ↓brB_false, ↓reduceIte, zA, zB, zC, zD, zE, zF, zG, zH, zI, reduceCtorEq]
      all_goals repeat' (first | (apply brB_mk <;> (intro hg; (try simp only [push_cast] at hg))) | (refine ⟨_, _, hB1, ?_⟩; simp only [push_cast, ↓brB_true, ↓brB_false, ↓reduceIte, zA, zB, zC, zD, zE, zF, zG, zH, zI, reduceCtorEq]) | apply And.intro | (intro hg; (try simp only [push_cast] at hg)))
      all_goals first | exact True.intro | exact rfl | contradiction | omega | with_reducible assumption | skip
      all_goals first | (refine hK9 _ ?_; clear hK9 K9) | (simp only [push_cast]; done)
      all_goals simp only [push_cast, ↓brB_true, ↓brB_false, ↓reduceIte, zA, zB, zC, zD, zE, zF, zG, zH, zI, reduceCtorEq]
      all_goals repeat' (first | (apply brB_mk <;> (intro hg; (try simp only [push_cast] at hg))) | (refine ⟨_, _, hB1, ?_⟩; simp only [push_cast, ↓brB_true, ↓brB_false, ↓reduceIte, zA, zB, zC, zD, zE, zF, zG, zH, zI, reduceCtorEq]) | apply And.intro | (intro hg; (try simp only [push_cast] at hg)))
      all_goals first | exact True.intro | exact rfl | contradiction | omega | with_reducible assumption | skip
      all_goals first | (refine hK _ ?_; clear hK K) | (simp only [push_cast]; done)
      refine awp_block ?_
      refine awp_loopU [9,27,28,29,30,31,32,33,34,35,1000000] [128] (fun (t : Nat) => [(9, .int .i64 ((rK code seed (cA code seed j v) : Int) + 1 - t)), (8, .sl 128 [] 0 (n + 1) 4)]) (fun t => [(1000000, [.sl 16000000 [] 0 code.length 5, .int .i64 (nI code (cA code seed j v + 1 + t)), .int .u64 (nH code seed (cA code seed j v + 1 + t))])]) (fun t => [(128, ⟨.ex, 4, dB (mks code seed (n + 1) (cA code seed j v + 1) t), none⟩), (16000000, ⟨.sh, 5, dU code, some 16000000⟩)]) (fun t => t ≤ rK code seed (cA code seed j v) + 1) (fun t => rK code seed (cA code seed j v) + 1 - t) 0 ?_ (by omega) ?_
      ·
        rw [show mks code seed (n + 1) (cA code seed j v + 1) 0 = List.replicate (n + 1) false from rfl]
        refine cov_of rfl ?_ ?_ ?_ <;> simp only [covS, covL, push_cast, ↓brB_true, ↓brB_false, ↓reduceIte, zA, zB, zC, zD, zE, zF, zG, zH, zI, reduceCtorEq]
      · rintro t ht KL1 hL1
        have hml := mks_len code seed (n + 1) (cA code seed j v + 1) t
        simp only [push_cast, ↓brB_true, ↓brB_false, ↓reduceIte, zA, zB, zC, zD, zE, zF, zG, zH, zI, reduceCtorEq]
        refine awp_seq' fun K5 hK5 => ?_
        refine awp_seq' fun K hK => ?_
        refine awp_region tyOk tyPos [] rfl ?_
        simp only [push_cast, ↓brB_true, ↓brB_false, ↓reduceIte, zA, zB, zC, zD, zE, zF, zG, zH, zI, reduceCtorEq]
        repeat' apply And.intro
        all_goals first | exact True.intro | exact rfl | omega | with_reducible assumption | (simp only [List.length_set, List.length_append, List.length_replicate, List.length_cons, List.length_nil]; omega) | skip
        all_goals first | (refine hK _ ?_; clear hK K) | (simp only [push_cast]; done)
        refine awp_cond rfl (fun hc => ?_) (fun hc => ?_) <;> (try simp only [push_cast] at hc)
        ·
          refine awp_skip ?_
          (try simp only [AThen, ABlk, reduceIte, zF]); refine hK5 _ ?_
          refine awp_seq' fun K6 hK6 => ?_
          refine awp_block ?_
          have hr3 := hr2 t
          refine awp_regionN false tyOk tyPos ?_ rfl ?_
          · kernel_rfl
          all_goals refine seqE_cut 4 fun K9 hK9 => ?_
          all_goals simp only [push_cast, ↓brB_true, ↓brB_false, ↓reduceIte, zA, zB, zC, zD, zE, zF, zG, zH, zI, reduceCtorEq]
          all_goals repeat' (first | (apply brB_mk <;> (intro hg; (try simp only [push_cast] at hg))) | (refine ⟨_, _, hB2 t, ?_⟩; simp only [push_cast, ↓brB_true, ↓brB_false, ↓reduceIte, zA, zB, zC, zD, zE, zF, zG, zH, zI, reduceCtorEq]) | apply And.intro | (intro hg; (try simp only [push_cast] at hg)))
          all_goals first | exact True.intro | exact rfl | contradiction | omega | with_reducible assumption | skip
          all_goals first | (refine hK9 _ ?_; clear hK9 K9) | (simp only [push_cast]; done)
          all_goals simp only [push_cast, ↓brB_true, ↓brB_false, ↓reduceIte, zA, zB, zC, zD, zE, zF, zG, zH, zI, reduceCtorEq]
          all_goals repeat' (first | (apply brB_mk <;> (intro hg; (try simp only [push_cast] at hg))) | (refine ⟨_, _, hB2 t, ?_⟩; simp only [push_cast, ↓brB_true, ↓brB_false, ↓reduceIte, zA, zB, zC, zD, zE, zF, zG, zH, zI, reduceCtorEq]) | apply And.intro | (intro hg; (try simp only [push_cast] at hg)))
          all_goals first | exact True.intro | exact rfl | contradiction | omega | with_reducible assumption | skip
          (try simp only [AThen, ABlk, reduceIte, zF]); refine hK6 _ ?_
          refine awp_region tyOk tyPos [] rfl ?_
          simp only [push_cast, ↓brB_true, ↓brB_false, ↓reduceIte, zA, zB, zC, zD, zE, zF, zG, zH, zI, reduceCtorEq]
          repeat' apply And.intro
          all_goals first | exact True.intro | exact rfl | omega | with_reducible assumption | (simp only [List.length_set, List.length_append, List.length_replicate, List.length_cons, List.length_nil]; omega) | skip
          refine hL1 _ ⟨t + 1, by omega, by omega, ?_⟩
          refine cov_of rfl ?_ ?_ ?_ <;> simp only [covS, covL, push_cast, ↓brB_true, ↓brB_false, ↓reduceIte, zA, zB, zC, zD, zE, zF, zG, zH, zI, reduceCtorEq]
          all_goals first | (refine congrArg (AV.int .i64) ?_; omega) | exact rfl | skip
        ·
          refine awp_exit ?_
          have htt : t = (rK code seed (cA code seed j v) + 1) := by omega
          subst htt
          (try simp only [AThen, ABlk, reduceIte, zF]); refine hK4 _ ?_
          refine awp_seq' fun K hK => ?_
          refine awp_region tyOk tyPos [] rfl ?_
          simp only [push_cast, ↓brB_true, ↓brB_false, ↓reduceIte, zA, zB, zC, zD, zE, zF, zG, zH, zI, reduceCtorEq]
          repeat' apply And.intro
          all_goals first | exact True.intro | exact rfl | omega | with_reducible assumption | (simp only [List.length_set, List.length_append, List.length_replicate, List.length_cons, List.length_nil]; omega) | skip
          all_goals first | (refine hK _ ?_; clear hK K) | (simp only [push_cast]; done)
          refine awp_seq' fun K7 hK7 => ?_
          refine awp_seq' fun K hK => ?_
          refine awp_region tyOk tyPos [] rfl ?_
          simp only [push_cast, ↓brB_true, ↓brB_false, ↓reduceIte, zA, zB, zC, zD, zE, zF, zG, zH, zI, reduceCtorEq]
          repeat' apply And.intro
          all_goals first | exact True.intro | exact rfl | omega | with_reducible assumption | (simp only [List.length_set, List.length_append, List.length_replicate, List.length_cons, List.length_nil]; omega) | skip
          all_goals first | (refine hK _ ?_; clear hK K) | (simp only [push_cast]; done)
          refine awp_block ?_
          refine awp_loopU [10,11,37,38,39,40,41,42,43,44,45,46,47,48,49] [160] (fun (u : Nat) => [(11, .int .i64 u), (10, .sl 160 [] 0 (rowU (mks code seed (n + 1) (cA code seed j v + 1) (rK code seed (cA code seed j v) + 1)) u).length 2)]) (fun u => []) (fun u => [(160, ⟨.ex, 2, dI (rowU (mks code seed (n + 1) (cA code seed j v + 1) (rK code seed (cA code seed j v) + 1)) u), none⟩)]) (fun u => u ≤ n + 1) (fun u => n + 1 - u) 0 ?_ (by omega) ?_
          ·
            rw [show rowU (mks code seed (n + 1) (cA code seed j v + 1) (rK code seed (cA code seed j v) + 1)) 0 = [] from rfl, show dI [] = [] from rfl]
            refine cov_of rfl ?_ ?_ ?_ <;> simp only [covS, covL, push_cast, ↓brB_true, ↓brB_false, ↓reduceIte, zA, zB, zC, zD, zE, zF, zG, zH, zI, reduceCtorEq]
          · rintro u hu KL2 hL2
            have hul := rowU_len (mks code seed (n + 1) (cA code seed j v + 1) (rK code seed (cA code seed j v) + 1)) u
            simp only [push_cast, ↓brB_true, ↓brB_false, ↓reduceIte, zA, zB, zC, zD, zE, zF, zG, zH, zI, reduceCtorEq]
            refine awp_seq' fun K8 hK8 => ?_
            refine awp_seq' fun K hK => ?_
            refine awp_region tyOk tyPos [] rfl ?_
            simp only [push_cast, ↓brB_true, ↓brB_false, ↓reduceIte, zA, zB, zC, zD, zE, zF, zG, zH, zI, reduceCtorEq]
            repeat' apply And.intro
            all_goals first | exact True.intro | exact rfl | omega | with_reducible assumption | (simp only [List.length_set, List.length_append, List.length_replicate, List.length_cons, List.length_nil]; omega) | skip
            all_goals first | (refine hK _ ?_; clear hK K) | (simp only [push_cast]; done)
            refine awp_cond rfl (fun hc => ?_) (fun hc => ?_) <;> (try simp only [push_cast] at hc)
            ·
              refine awp_skip ?_
              (try simp only [AThen, ABlk, reduceIte, zF]); refine hK8 _ ?_
              refine awp_seq' fun K9 hK9 => ?_
              refine awp_block ?_
              refine awp_seq' fun K hK => ?_
              refine awp_region tyOk tyPos [] rfl ?_
              simp only [push_cast, ↓brB_true, ↓brB_false, ↓reduceIte, zA, zB, zC, zD, zE, zF, zG, zH, zI, reduceCtorEq]
              repeat' apply And.intro
              all_goals first | exact True.intro | exact rfl | omega | with_reducible assumption | (simp only [List.length_set, List.length_append, List.length_replicate, List.length_cons, List.length_nil]; omega) | skip
              all_goals first | (refine hK _ ?_; clear hK K) | (simp only [push_cast]; done)
              refine awp_cond rfl (fun hc => ?_) (fun hc => ?_) <;> (try simp only [push_cast] at hc)
              ·
                refine awp_region tyOk tyPos [] rfl ?_
                simp only [push_cast, ↓brB_true, ↓brB_false, ↓reduceIte, zA, zB, zC, zD, zE, zF, zG, zH, zI, reduceCtorEq]
                repeat' apply And.intro
                all_goals first | exact True.intro | exact rfl | omega | with_reducible assumption | (simp only [List.length_set, List.length_append, List.length_replicate, List.length_cons, List.length_nil]; omega) | skip
                (try simp only [AThen, ABlk, reduceIte, zF]); refine hK9 _ ?_
                refine awp_region tyOk tyPos [] rfl ?_
                simp only [push_cast, ↓brB_true, ↓brB_false, ↓reduceIte, zA, zB, zC, zD, zE, zF, zG, zH, zI, reduceCtorEq]
                repeat' apply And.intro
                all_goals first | exact True.intro | exact rfl | omega | with_reducible assumption | (simp only [List.length_set, List.length_append, List.length_replicate, List.length_cons, List.length_nil]; omega) | skip
                refine hL2 _ ⟨u + 1, by omega, by omega, ?_⟩
                rw [rowU_yes hc]
                refine cov_of rfl ?_ ?_ ?_ <;> simp only [covS, covL, push_cast, ↓brB_true, ↓brB_false, ↓reduceIte, zA, zB, zC, zD, zE, zF, zG, zH, zI, reduceCtorEq]
                all_goals (try (rw [List.length_append]; rfl))
              ·
                refine awp_skip ?_
                (try simp only [AThen, ABlk, reduceIte, zF]); refine hK9 _ ?_
                refine awp_region tyOk tyPos [] rfl ?_
                simp only [push_cast, ↓brB_true, ↓brB_false, ↓reduceIte, zA, zB, zC, zD, zE, zF, zG, zH, zI, reduceCtorEq]
                repeat' apply And.intro
                all_goals first | exact True.intro | exact rfl | omega | with_reducible assumption | (simp only [List.length_set, List.length_append, List.length_replicate, List.length_cons, List.length_nil]; omega) | skip
                refine hL2 _ ⟨u + 1, by omega, by omega, ?_⟩
                rw [rowU_no (by rw [hc]; decide)]
                refine cov_of rfl ?_ ?_ ?_ <;> simp only [covS, covL, push_cast, ↓brB_true, ↓brB_false, ↓reduceIte, zA, zB, zC, zD, zE, zF, zG, zH, zI, reduceCtorEq]
                all_goals (try (rw [List.length_append]; rfl))
            ·
              refine awp_exit ?_
              have huu : u = n + 1 := by omega
              subst huu
              (try simp only [AThen, ABlk, reduceIte, zF]); refine hK7 _ ?_
              refine awp_seq' fun K hK => ?_
              refine awp_regionD1 false tyOk tyPos tyMix ?_ rfl ?_
              · kernel_rfl
              intro E hE
              all_goals refine lexF_cut 4 (by decide) fun K9 hK9 => ?_
              all_goals simp only [push_cast, ↓brB_true, ↓brB_false, ↓reduceIte, zA, zB, zC, zD, zE, zF, zG, zH, zI, reduceCtorEq]
              all_goals repeat' (first | (apply brB_mk <;> (intro hg; (try simp only [push_cast] at hg))) | (refine ⟨_, _, hB3, ?_⟩; simp only [push_cast, ↓brB_true, ↓brB_false, ↓reduceIte, zA, zB, zC, zD, zE, zF, zG, zH, zI, reduceCtorEq]) | apply And.intro | (intro hg; (try simp only [push_cast] at hg)))
              all_goals first | exact True.intro | exact rfl | contradiction | omega | with_reducible assumption | skip
              all_goals first | (refine hK9 _ _ ?_; clear hK9 K9) | (simp only [push_cast]; done)
              all_goals simp only [push_cast, ↓brB_true, ↓brB_false, ↓reduceIte, zA, zB, zC, zD, zE, zF, zG, zH, zI, reduceCtorEq]
              all_goals repeat' (first | (apply brB_mk <;> (intro hg; (try simp only [push_cast] at hg))) | (refine ⟨_, _, hB3, ?_⟩; simp only [push_cast, ↓brB_true, ↓brB_false, ↓reduceIte, zA, zB, zC, zD, zE, zF, zG, zH, zI, reduceCtorEq]) | apply And.intro | (intro hg; (try simp only [push_cast] at hg)))
              all_goals first | exact True.intro | exact rfl | contradiction | omega | with_reducible assumption | (refine hE _ _ ?_ ?_; kernel_rfl) | skip
              all_goals clear hE E
              all_goals first | (refine hK _ ?_; clear hK K) | (simp only [push_cast]; done)
              refine awp_regionN false tyOk tyPos ?_ rfl ?_
              · kernel_rfl
              simp only [push_cast, ↓brB_true, ↓brB_false, ↓reduceIte, zA, zB, zC, zD, zE, zF, zG, zH, zI, reduceCtorEq]
              all_goals repeat' (first | (apply brB_mk <;> (intro hg; (try simp only [push_cast] at hg))) | apply And.intro | (intro hg; (try simp only [push_cast] at hg)))
              all_goals first | exact True.intro | exact rfl | contradiction | omega | with_reducible assumption | skip
              (try simp only [AThen, ABlk, reduceIte, zF]); refine hK3 _ ?_
              refine awp_settleB [.sl 2, .sl 27] 6 ?_
              simp only [push_cast, ↓brB_true, ↓brB_false, ↓reduceIte, zA, zB, zC, zD, zE, zF, zG, zH, zI, reduceCtorEq]
              refine awp_region tyOk tyPos [] rfl ?_
              simp only [push_cast, ↓brB_true, ↓brB_false, ↓reduceIte, zA, zB, zC, zD, zE, zF, zG, zH, zI, reduceCtorEq]
              repeat' apply And.intro
              all_goals first | exact True.intro | exact rfl | omega | with_reducible assumption | (simp only [List.length_set, List.length_append, List.length_replicate, List.length_cons, List.length_nil]; omega) | skip
              refine hL0 _ ⟨v + 1, by omega, by omega, ?_⟩
              (try rw [List.take_of_length_le (l := oA code seed j v) (by omega)])
              (try rw [List.take_of_length_le (l := xA code seed (n + 1) j v) (by omega)])
              refine cov_of rfl ?_ ?_ ?_ <;> simp only [covS, covL, push_cast, ↓brB_true, ↓brB_false, ↓reduceIte, zA, zB, zC, zD, zE, zF, zG, zH, zI, reduceCtorEq]
              all_goals first | exact rfl | exact ⟨rfl, rfl⟩ | skip
    ·
      refine awp_exit ?_
      have hvv : v = n + 1 := by omega
      subst hvv
      (try simp only [AThen, ABlk, reduceIte, zF]); refine hK1 _ ?_
      refine awp_seq' fun K hK => ?_
      refine awp_region tyOk tyPos [] rfl ?_
      simp only [push_cast, ↓brB_true, ↓brB_false, ↓reduceIte, zA, zB, zC, zD, zE, zF, zG, zH, zI, reduceCtorEq]
      repeat' apply And.intro
      all_goals first | exact True.intro | exact rfl | omega | with_reducible assumption | (simp only [List.length_set, List.length_append, List.length_replicate, List.length_cons, List.length_nil]; omega) | skip
      all_goals first | (refine hK _ ?_; clear hK K) | (simp only [push_cast]; done)
      refine awp_ret ?_
      (try simp only [AThen, ABlk])
      refine ⟨Or.inl rfl, ?_⟩
      simp only [RetB, RetOk, cellsB, resVars, resVar, push_cast, ↓brB_true, ↓brB_false, ↓reduceIte, zA, zB, zC, zD, zE, zF, zG, zH, zI, reduceCtorEq]
      all_goals first | exact ⟨hol.symm, hxl.symm⟩ | skip
end Go.Proofs.Ytdbecmmeifdafaa
