/- all parts of a few names, and the other family: both sides -/
import Derived.Test.YtbieekheapeopaaFczUF
namespace Go.Proofs.Ytbieekheapeopaa
open Nat renaming reduceMod → zA, reduceMul → zB, reduceDiv → zC, reduceAdd → zD, reduceSub → zE, reduceEqDiff → zF, reduceBEq → zG, reduceLT → zH, reduceLeDiff → zI
open Go.RowKit
set_option linter.unusedVariables false
set_option linter.unusedSimpArgs false

/-- What the bits of a number pick. -/
def pickL : List Int → Nat → List Int
  | [], _ => []
  | x :: xs, b => if b % 2 = 1 then x :: pickL xs (b / 2) else pickL xs (b / 2)
theorem pickL_le : ∀ (xs : List Int) (b : Nat), (pickL xs b).length ≤ xs.length
  | [], _ => Nat.le_refl _
  | x :: xs, b => by
    have := pickL_le xs (b / 2)
    unfold pickL
    split <;> simp only [List.length_cons] <;> omega
theorem pickL_snoc : ∀ (xs : List Int) (x : Int) (b : Nat), pickL (xs ++ [x]) b = pickL xs b ++ (if b / 2 ^ xs.length % 2 = 1 then [x] else [])
  | [], x, b => by
    simp only [List.nil_append, pickL, List.length_nil, Nat.pow_zero, Nat.div_one]
  | y :: xs, x, b => by
    have h := pickL_snoc xs x (b / 2)
    rw [Nat.div_div_eq_div_mul, show 2 * 2 ^ xs.length = 2 ^ (xs.length + 1) from by rw [Nat.pow_succ, Nat.mul_comm]] at h
    simp only [List.cons_append, pickL, List.length_cons]
    rw [h]
    split <;> simp
theorem pickL_lo {xs : List Int} {x : Int} {b : Nat} (h : b < 2 ^ xs.length) : pickL (xs ++ [x]) b = pickL xs b := by
  rw [pickL_snoc, Nat.div_eq_of_lt h]
  simp
theorem pickL_mod : ∀ (xs : List Int) (j : Nat), pickL xs (2 ^ xs.length + j) = pickL xs j
  | [], j => rfl
  | x :: xs, j => by
    have h := pickL_mod xs (j / 2)
    have e1 : (2 ^ (xs.length + 1) + j) % 2 = j % 2 := by rw [Nat.pow_succ]; omega
    have e2 : (2 ^ (xs.length + 1) + j) / 2 = 2 ^ xs.length + j / 2 := by rw [Nat.pow_succ]; omega
    simp only [pickL, List.length_cons, e1, e2, h]
theorem pickL_hi {xs : List Int} {x : Int} {j : Nat} (h : j < 2 ^ xs.length) : pickL (xs ++ [x]) (2 ^ xs.length + j) = pickL xs j ++ [x] := by
  have hp : 0 < 2 ^ xs.length := Nat.two_pow_pos _
  rw [pickL_snoc, pickL_mod, Nat.add_div_left _ hp, Nat.div_eq_of_lt h]
  rfl
/-- The first k parts. -/
def subsT (xs : List Int) (k : Nat) : List (List Int) := (List.range k).map (pickL xs)
theorem subsT_len (xs : List Int) (k : Nat) : (subsT xs k).length = k := by simp [subsT]
theorem subsT_s (xs : List Int) (k : Nat) : subsT xs (k + 1) = subsT xs k ++ [pickL xs k] := by simp [subsT, List.range_succ]
theorem subsT_gl {xs : List Int} {k j : Nat} (h : j < k) : gl (subsT xs k) j = pickL xs j := by
  unfold gl subsT
  rw [List.getD_eq_getElem?_getD, List.getElem?_map, List.getElem?_range h]
  rfl
theorem subsT_lo {xs : List Int} {x : Int} : subsT (xs ++ [x]) (2 ^ xs.length) = subsT xs (2 ^ xs.length) := by
  unfold subsT
  refine List.map_congr_left fun j hj => ?_
  exact pickL_lo (List.mem_range.1 hj)
def subsL (xs : List Int) : List (List Int) := subsT xs (2 ^ xs.length)
theorem pow_le16 {n : Nat} (h : n ≤ 4) : 2 ^ n ≤ 16 := Nat.pow_le_pow_right (by omega) h
theorem bit_int {num i : Nat} (h : i ≤ 64) : ((num : Int) / 2 ^ (min i 64)) % 2 = ((num / 2 ^ i % 2 : Nat) : Int) := by
  rw [Nat.min_eq_left h, Int.natCast_emod, Int.natCast_ediv, Int.natCast_pow]
  rfl
theorem pow_int {n : Nat} (h : n ≤ 64) : (2 : Int) ^ (min n 64) = ((2 ^ n : Nat) : Int) := by
  rw [Nat.min_eq_left h, Int.natCast_pow]
  rfl
theorem pick_yes {xs : List Int} {num k : Nat} (hk : k < xs.length) (h : num / 2 ^ k % 2 = 1) : pickL (xs.take (k + 1)) num = pickL (xs.take k) num ++ [gi xs k] := by
  rw [tk_snocI hk, pickL_snoc, List.length_take, Nat.min_eq_left (by omega), if_pos h]
theorem pick_no {xs : List Int} {num k : Nat} (hk : k < xs.length) (h : ¬ num / 2 ^ k % 2 = 1) : pickL (xs.take (k + 1)) num = pickL (xs.take k) num := by
  rw [tk_snocI hk, pickL_snoc, List.length_take, Nat.min_eq_left (by omega), if_neg h, List.append_nil]
theorem shr_nn (num k : Nat) : (0 : Int) ≤ (num : Int) / 2 ^ (min k 64) := Int.ediv_nonneg (by omega) (Int.pow_nonneg (by omega))
set_option maxRecDepth 20000 in
set_option maxHeartbeats 4000000 in
theorem subsetsOf_fn (xs : List Int) (hx : xs.length ≤ 4) : Fn Try.prog tyT 90 [.c (DI xs)] [.c (DII (subsL xs))] := by
  have hN := pow_int (n := xs.length) (by omega)
  have h16 := pow_le16 hx
  have h1 := Nat.two_pow_pos xs.length
  obtain ⟨N, hNd⟩ : ∃ N, N = 2 ^ xs.length := ⟨_, rfl⟩
  rw [← hNd] at hN h16 h1
  unfold subsL
  rw [← hNd]
  refine Fn_of (fn := Try.f90) (ts := [2]) Try.func90 (by kernel_rfl) rfl rfl (by rw [Try.ntmps90]; exact Nat.le_of_ble_eq_true rfl) rfl (by simp only [szA, List.mem_cons, List.not_mem_nil, or_false, forall_eq_or_imp, forall_eq, VT.cells, szL]; try decide) ?_
  rw [Try.ntmps90]
  simp only [push_cast, ↓brB_true, ↓brB_false, ↓reduceIte, zA, zB, zC, zD, zE, zF, zG, zH, zI, reduceCtorEq]
  refine awp_seq' fun K hK => ?_
  refine awp_region tyOk tyPos [] rfl ?_
  all_goals simp only [push_cast, ↓brB_true, ↓brB_false, ↓reduceIte, zA, zB, zC, zD, zE, zF, zG, zH, zI, reduceCtorEq]
  all_goals repeat' (first | (apply brB_mk <;> (intro hg; (try simp only [push_cast] at hg))) | apply And.intro | (intro hg; (try simp only [push_cast] at hg)))
  all_goals first | exact True.intro | exact rfl | contradiction | omega | with_reducible assumption | (exact shr_nn _ _) | (rw [hN]; omega) | skip
  all_goals first | (refine hK _ ?_; clear hK K) | (simp only [push_cast]; done)
  refine awp_seq' fun K hK => ?_
  refine awp_regionN false tyOk tyPos ?_ rfl ?_
  · kernel_rfl
  simp only [push_cast, ↓brB_true, ↓brB_false, ↓reduceIte, zA, zB, zC, zD, zE, zF, zG, zH, zI, reduceCtorEq]
  all_goals repeat' (first | (apply brB_mk <;> (intro hg; (try simp only [push_cast] at hg))) | apply And.intro | (intro hg; (try simp only [push_cast] at hg)))
  all_goals first | exact True.intro | exact rfl | contradiction | omega | with_reducible assumption | (exact shr_nn _ _) | (rw [hN]; omega) | skip
  all_goals first | (refine hK _ ?_; clear hK K) | (simp only [push_cast]; done)
  refine awp_settle 22 3 (Nat.le_of_ble_eq_true rfl) ?_
  simp only [push_cast, ↓brB_true, ↓brB_false, ↓reduceIte, zA, zB, zC, zD, zE, zF, zG, zH, zI, reduceCtorEq]
  refine awp_seq' fun K1 hK1 => ?_
  refine awp_seq' fun K hK => ?_
  refine awp_region tyOk tyPos [] rfl ?_
  all_goals simp only [push_cast, ↓brB_true, ↓brB_false, ↓reduceIte, zA, zB, zC, zD, zE, zF, zG, zH, zI, reduceCtorEq]
  all_goals repeat' (first | (apply brB_mk <;> (intro hg; (try simp only [push_cast] at hg))) | apply And.intro | (intro hg; (try simp only [push_cast] at hg)))
  all_goals first | exact True.intro | exact rfl | contradiction | omega | with_reducible assumption | (exact shr_nn _ _) | (rw [hN]; omega) | skip
  all_goals first | (refine hK _ ?_; clear hK K) | (simp only [push_cast]; done)
  refine awp_block ?_
  refine awp_loopU [3,4,5,6,7,9,10,11,12,13,14,15,16,17,18,19,20,21,22,23,24,25,26,27,28,29,30,31,32,33,34,35,36,37] [48] (fun (num : Nat) => [(4, .int .i64 num), (3, .sl 48 [] 0 num 22)]) (fun num => []) (fun num => [(48, ⟨.ex, 22, dII (subsT xs num), none⟩)]) (fun num => num ≤ N) (fun num => N - num) 0 ?_ (by omega) ?_
  ·
    rw [show dII (subsT xs 0) = [] from rfl]
    refine cov_of rfl ?_ ?_ ?_ <;> simp only [covS, covL, push_cast, ↓brB_true, ↓brB_false, ↓reduceIte, zA, zB, zC, zD, zE, zF, zG, zH, zI, reduceCtorEq]
  · rintro num hn KL0 hL0
    have hsl := subsT_len xs num
    simp only [push_cast, ↓brB_true, ↓brB_false, ↓reduceIte, zA, zB, zC, zD, zE, zF, zG, zH, zI, reduceCtorEq]
    refine awp_seq' fun K2 hK2 => ?_
    refine awp_seq' fun K hK => ?_
    refine awp_region tyOk tyPos [] rfl ?_
    all_goals simp only [push_cast, ↓brB_true, ↓brB_false, ↓reduceIte, zA, zB, zC, zD, zE, zF, zG, zH, zI, reduceCtorEq]
    all_goals repeat' (first | (apply brB_mk <;> (intro hg; (try simp only [push_cast] at hg))) | apply And.intro | (intro hg; (try simp only [push_cast] at hg)))
    all_goals first | exact True.intro | exact rfl | contradiction | omega | with_reducible assumption | (exact shr_nn _ _) | (rw [hN]; omega) | skip
    all_goals first | (refine hK _ ?_; clear hK K) | (simp only [push_cast]; done)
    refine awp_cond rfl (fun hc => ?_) (fun hc => ?_) <;> (try simp only [push_cast] at hc)
    ·
      refine awp_skip ?_
      (try simp only [AThen, ABlk, reduceIte, zF]); refine hK2 _ ?_
      refine awp_seq' fun K3 hK3 => ?_
      refine awp_block ?_
      refine awp_seq' fun K hK => ?_
      refine awp_region tyOk tyPos [] rfl ?_
      all_goals simp only [push_cast, ↓brB_true, ↓brB_false, ↓reduceIte, zA, zB, zC, zD, zE, zF, zG, zH, zI, reduceCtorEq]
      all_goals repeat' (first | (apply brB_mk <;> (intro hg; (try simp only [push_cast] at hg))) | apply And.intro | (intro hg; (try simp only [push_cast] at hg)))
      all_goals first | exact True.intro | exact rfl | contradiction | omega | with_reducible assumption | (exact shr_nn _ _) | (rw [hN]; omega) | skip
      all_goals first | (refine hK _ ?_; clear hK K) | (simp only [push_cast]; done)
      refine awp_seq' fun K4 hK4 => ?_
      refine awp_seq' fun K hK => ?_
      refine awp_region tyOk tyPos [] rfl ?_
      all_goals simp only [push_cast, ↓brB_true, ↓brB_false, ↓reduceIte, zA, zB, zC, zD, zE, zF, zG, zH, zI, reduceCtorEq]
      all_goals repeat' (first | (apply brB_mk <;> (intro hg; (try simp only [push_cast] at hg))) | apply And.intro | (intro hg; (try simp only [push_cast] at hg)))
      all_goals first | exact True.intro | exact rfl | contradiction | omega | with_reducible assumption | (exact shr_nn _ _) | (rw [hN]; omega) | skip
      all_goals first | (refine hK _ ?_; clear hK K) | (simp only [push_cast]; done)
      refine awp_block ?_
      refine awp_loopU [5,6,7,19,20,21,22,23,24,25,26,27,28,29,30,31,32,33] [80] (fun (k : Nat) => [(19, .int .i64 k), (5, .sl 80 [] 0 (pickL (xs.take k) num).length 2)]) (fun k => []) (fun k => [(80, ⟨.ex, 2, dI (pickL (xs.take k) num), none⟩)]) (fun k => k ≤ xs.length) (fun k => xs.length - k) 0 ?_ (by omega) ?_
      ·
        rw [show pickL (xs.take 0) num = [] from rfl, show dI ([] : List Int) = [] from rfl]
        refine cov_of rfl ?_ ?_ ?_ <;> simp only [covS, covL, push_cast, ↓brB_true, ↓brB_false, ↓reduceIte, zA, zB, zC, zD, zE, zF, zG, zH, zI, reduceCtorEq]
      · rintro k hk KL1 hL1
        have hpl := pickL_le (xs.take k) num
        rw [List.length_take] at hpl
        have hbi := bit_int (num := num) (i := k) (by omega)
        simp only [push_cast, ↓brB_true, ↓brB_false, ↓reduceIte, zA, zB, zC, zD, zE, zF, zG, zH, zI, reduceCtorEq]
        refine awp_seq' fun K hK => ?_
        refine awp_region tyOk tyPos [] rfl ?_
        all_goals simp only [push_cast, ↓brB_true, ↓brB_false, ↓reduceIte, zA, zB, zC, zD, zE, zF, zG, zH, zI, reduceCtorEq]
        all_goals repeat' (first | (apply brB_mk <;> (intro hg; (try simp only [push_cast] at hg))) | apply And.intro | (intro hg; (try simp only [push_cast] at hg)))
        all_goals first | exact True.intro | exact rfl | contradiction | omega | with_reducible assumption | (exact shr_nn _ _) | (rw [hN]; omega) | skip
        all_goals first | (refine hK _ ?_; clear hK K) | (simp only [push_cast]; done)
        refine awp_seq' fun K5 hK5 => ?_
        refine awp_cond rfl (fun hc => ?_) (fun hc => ?_) <;> (try simp only [push_cast] at hc)
        ·
          refine awp_skip ?_
          (try simp only [AThen, ABlk, reduceIte, zF]); refine hK5 _ ?_
          refine awp_seq' fun K6 hK6 => ?_
          refine awp_block ?_
          refine awp_seq' fun K hK => ?_
          refine awp_region tyOk tyPos [] rfl ?_
          all_goals simp only [push_cast, ↓brB_true, ↓brB_false, ↓reduceIte, zA, zB, zC, zD, zE, zF, zG, zH, zI, reduceCtorEq]
          all_goals repeat' (first | (apply brB_mk <;> (intro hg; (try simp only [push_cast] at hg))) | apply And.intro | (intro hg; (try simp only [push_cast] at hg)))
          all_goals first | exact True.intro | exact rfl | contradiction | omega | with_reducible assumption | (exact shr_nn _ _) | (rw [hN]; omega) | skip
          all_goals first | (refine hK _ ?_; clear hK K) | (simp only [push_cast]; done)
          refine awp_seq' fun K hK => ?_
          refine awp_region tyOk tyPos [] rfl ?_
          all_goals simp only [push_cast, ↓brB_true, ↓brB_false, ↓reduceIte, zA, zB, zC, zD, zE, zF, zG, zH, zI, reduceCtorEq]
          all_goals repeat' (first | (apply brB_mk <;> (intro hg; (try simp only [push_cast] at hg))) | apply And.intro | (intro hg; (try simp only [push_cast] at hg)))
          all_goals first | exact True.intro | exact rfl | contradiction | omega | with_reducible assumption | (exact shr_nn _ _) | (rw [hN]; omega) | skip
          all_goals first | (refine hK _ ?_; clear hK K) | (simp only [push_cast]; done)
          refine awp_cond rfl (fun hc => ?_) (fun hc => ?_) <;> (try simp only [push_cast] at hc)
          ·
            refine awp_region tyOk tyPos [] rfl ?_
            all_goals simp only [push_cast, ↓brB_true, ↓brB_false, ↓reduceIte, zA, zB, zC, zD, zE, zF, zG, zH, zI, reduceCtorEq]
            all_goals repeat' (first | (apply brB_mk <;> (intro hg; (try simp only [push_cast] at hg))) | apply And.intro | (intro hg; (try simp only [push_cast] at hg)))
            all_goals first | exact True.intro | exact rfl | contradiction | omega | with_reducible assumption | (exact shr_nn _ _) | (rw [hN]; omega) | skip
            (try simp only [AThen, ABlk, reduceIte, zF]); refine hK6 _ ?_
            refine awp_region tyOk tyPos [] rfl ?_
            all_goals simp only [push_cast, ↓brB_true, ↓brB_false, ↓reduceIte, zA, zB, zC, zD, zE, zF, zG, zH, zI, reduceCtorEq]
            all_goals repeat' (first | (apply brB_mk <;> (intro hg; (try simp only [push_cast] at hg))) | apply And.intro | (intro hg; (try simp only [push_cast] at hg)))
            all_goals first | exact True.intro | exact rfl | contradiction | omega | with_reducible assumption | (exact shr_nn _ _) | (rw [hN]; omega) | skip
            refine hL1 _ ⟨k + 1, by omega, by omega, ?_⟩
            rw [pick_yes (by omega) (by rw [hbi] at hc; omega)]
            (try rw [List.take_of_length_le (l := pickL (xs.take k) num) (by omega)])
            refine cov_of rfl ?_ ?_ ?_ <;> simp only [covS, covL, push_cast, ↓brB_true, ↓brB_false, ↓reduceIte, zA, zB, zC, zD, zE, zF, zG, zH, zI, reduceCtorEq]
            all_goals (try (rw [List.length_append]; rfl))
          ·
            refine awp_skip ?_
            (try simp only [AThen, ABlk, reduceIte, zF]); refine hK6 _ ?_
            refine awp_region tyOk tyPos [] rfl ?_
            all_goals simp only [push_cast, ↓brB_true, ↓brB_false, ↓reduceIte, zA, zB, zC, zD, zE, zF, zG, zH, zI, reduceCtorEq]
            all_goals repeat' (first | (apply brB_mk <;> (intro hg; (try simp only [push_cast] at hg))) | apply And.intro | (intro hg; (try simp only [push_cast] at hg)))
            all_goals first | exact True.intro | exact rfl | contradiction | omega | with_reducible assumption | (exact shr_nn _ _) | (rw [hN]; omega) | skip
            refine hL1 _ ⟨k + 1, by omega, by omega, ?_⟩
            rw [pick_no (by omega) (by rw [hbi] at hc; omega)]
            refine cov_of rfl ?_ ?_ ?_ <;> simp only [covS, covL, push_cast, ↓brB_true, ↓brB_false, ↓reduceIte, zA, zB, zC, zD, zE, zF, zG, zH, zI, reduceCtorEq]
            all_goals (try (rw [List.length_append]; rfl))
        ·
          refine awp_exit ?_
          have hkk : k = xs.length := by omega
          subst hkk
          rw [List.take_length]
          (try simp only [AThen, ABlk, reduceIte, zF]); refine hK4 _ ?_
          refine awp_regionN false tyOk tyPos ?_ rfl ?_
          · kernel_rfl
          simp only [push_cast, ↓brB_true, ↓brB_false, ↓reduceIte, zA, zB, zC, zD, zE, zF, zG, zH, zI, reduceCtorEq]
          all_goals repeat' (first | (apply brB_mk <;> (intro hg; (try simp only [push_cast] at hg))) | apply And.intro | (intro hg; (try simp only [push_cast] at hg)))
          all_goals first | exact True.intro | exact rfl | contradiction | omega | with_reducible assumption | (exact shr_nn _ _) | (rw [hN]; omega) | skip
          (try simp only [AThen, ABlk, reduceIte, zF]); refine hK3 _ ?_
          refine awp_settle 22 3 (Nat.le_of_ble_eq_true rfl) ?_
          simp only [push_cast, ↓brB_true, ↓brB_false, ↓reduceIte, zA, zB, zC, zD, zE, zF, zG, zH, zI, reduceCtorEq]
          refine awp_region tyOk tyPos [] rfl ?_
          all_goals simp only [push_cast, ↓brB_true, ↓brB_false, ↓reduceIte, zA, zB, zC, zD, zE, zF, zG, zH, zI, reduceCtorEq]
          all_goals repeat' (first | (apply brB_mk <;> (intro hg; (try simp only [push_cast] at hg))) | apply And.intro | (intro hg; (try simp only [push_cast] at hg)))
          all_goals first | exact True.intro | exact rfl | contradiction | omega | with_reducible assumption | (exact shr_nn _ _) | (rw [hN]; omega) | skip
          refine hL0 _ ⟨num + 1, by omega, by omega, ?_⟩
          (try rw [List.take_of_length_le (l := subsT xs num) (by omega)])
          rw [subsT_s]
          refine cov_of rfl ?_ ?_ ?_ <;> simp only [covS, covL, push_cast, ↓brB_true, ↓brB_false, ↓reduceIte, zA, zB, zC, zD, zE, zF, zG, zH, zI, reduceCtorEq]
    ·
      refine awp_exit ?_
      have hnn : num = N := by omega
      subst hnn
      (try simp only [AThen, ABlk, reduceIte, zF]); refine hK1 _ ?_
      refine awp_seq' fun K hK => ?_
      refine awp_region tyOk tyPos [] rfl ?_
      all_goals simp only [push_cast, ↓brB_true, ↓brB_false, ↓reduceIte, zA, zB, zC, zD, zE, zF, zG, zH, zI, reduceCtorEq]
      all_goals repeat' (first | (apply brB_mk <;> (intro hg; (try simp only [push_cast] at hg))) | apply And.intro | (intro hg; (try simp only [push_cast] at hg)))
      all_goals first | exact True.intro | exact rfl | contradiction | omega | with_reducible assumption | (exact shr_nn _ _) | (rw [hN]; omega) | skip
      all_goals first | (refine hK _ ?_; clear hK K) | (simp only [push_cast]; done)
      refine awp_ret ?_
      (try simp only [AThen, ABlk])
      refine ⟨Or.inl rfl, ?_⟩
      simp only [RetOk, push_cast, ↓brB_true, ↓brB_false, ↓reduceIte, zA, zB, zC, zD, zE, zF, zG, zH, zI, reduceCtorEq]
      first | rfl | (simp [subsT_len]; done)
def p2 (i : Nat) : Nat := 2 ^ i
theorem p2_pos (i : Nat) : 0 < p2 i := Nat.two_pow_pos i
theorem p2_le {i : Nat} (h : i ≤ 4) : p2 i ≤ 16 := pow_le16 h
theorem p2_s (i : Nat) : p2 (i + 1) = p2 i + p2 i := by unfold p2; rw [Nat.pow_succ]; omega
theorem p2_int {n : Nat} (h : n ≤ 64) : (2 : Int) ^ (min n 64) = (p2 n : Int) := pow_int h
theorem subsT_step0 {xs : List Int} {i : Nat} (h : i < xs.length) : subsT (xs.take (i + 1)) (p2 i) = subsT (xs.take i) (p2 i) := by
  unfold p2
  have hl : (xs.take i).length = i := by rw [List.length_take]; omega
  have := subsT_lo (xs := xs.take i) (x := gi xs i)
  rw [hl] at this
  rw [tk_snocI h, this]
theorem pick_hi2 {xs : List Int} {i j : Nat} (h : i < xs.length) (hj : j < p2 i) : pickL (xs.take (i + 1)) (p2 i + j) = pickL (xs.take (i + 1)) j ++ [gi xs i] := by
  unfold p2 at hj ⊢
  have hl : (xs.take i).length = i := by rw [List.length_take]; omega
  have h1 := pickL_hi (xs := xs.take i) (x := gi xs i) (j := j) (by rw [hl]; exact hj)
  have h2 := pickL_lo (xs := xs.take i) (x := gi xs i) (b := j) (by rw [hl]; exact hj)
  rw [hl] at h1
  rw [tk_snocI h, h1, h2]
/-- The rows of an own object, those behind k gone where p holds. -/
def holT (p : List Int → Bool) (rows : List (List Int)) (k : Nat) : List D := (rows.take k).map (fun r => if p r then D.hole else .lst 2 (dI r)) ++ dII (rows.drop k)
theorem holT_0 (p : List Int → Bool) (rows : List (List Int)) : holT p rows 0 = dII rows := by simp [holT]
theorem holT_at (p : List Int → Bool) (rows : List (List Int)) (k : Nat) : (holT p rows k)[k]? = (dII rows)[k]? := by
  unfold holT dII
  rcases Nat.lt_or_ge k rows.length with h | h
  · have hl : ((rows.take k).map (fun r => if p r then D.hole else .lst 2 (dI r))).length = k := by simp; omega
    rw [List.getElem?_append_right (by omega), hl, Nat.sub_self, List.getElem?_map, List.getElem?_map, List.getElem?_drop]
    rfl
  · rw [List.getElem?_eq_none (by simp; omega), List.getElem?_eq_none (by simp; omega)]
theorem len_holT (p : List Int → Bool) (rows : List (List Int)) (k : Nat) : (holT p rows k).length = rows.length := by simp [holT, dII]; omega
theorem getL_holT (p : List Int → Bool) (rows : List (List Int)) (k : Nat) : getL (holT p rows k) k = dI (gl rows k) := by
  rw [← getL_dII]
  unfold getL
  rw [holT_at]
theorem getE_holT {p : List Int → Bool} {rows : List (List Int)} {k : Nat} (h : k < rows.length) : getE (holT p rows k) k = 2 := by
  rw [← getE_dII h]
  unfold getE
  rw [holT_at]
theorem HasC_holT (p : List Int → Bool) (rows : List (List Int)) (k : Nat) : HasC (.sl 2) (holT p rows k) k = (k < rows.length) := by
  rw [← HasC_dII]
  unfold HasC
  rw [holT_at]
theorem okPath_holT (p : List Int → Bool) (rows : List (List Int)) (k : Nat) : okPath (holT p rows k) [k] = (k < rows.length) := by
  rw [← okPath_dII]
  unfold okPath
  rw [holT_at]
theorem holT_set {p : List Int → Bool} {rows : List (List Int)} {k : Nat} (h : k < rows.length) (hp : p (gl rows k) = true) : (holT p rows k).set k .hole = holT p rows (k + 1) := by
  have hl : ((rows.take k).map (fun r => if p r then D.hole else .lst 2 (dI r))).length = k := by simp; omega
  unfold holT
  rw [List.set_append_right _ _ (by omega), hl, Nat.sub_self, tk_snocL h, List.map_append, List.append_assoc]
  congr 1
  have : rows.drop k = gl rows k :: rows.drop (k + 1) := by
    rw [List.drop_eq_getElem_cons h]
    congr 1
    unfold gl
    rw [List.getD_eq_getElem?_getD, List.getElem?_eq_getElem h]
    rfl
  rw [this]
  simp [dII, hp]
theorem holT_keep {p : List Int → Bool} {rows : List (List Int)} {k : Nat} (h : k < rows.length) (hp : p (gl rows k) = false) : holT p rows k = holT p rows (k + 1) := by
  unfold holT
  rw [tk_snocL h, List.map_append, List.append_assoc]
  congr 1
  have : rows.drop k = gl rows k :: rows.drop (k + 1) := by
    rw [List.drop_eq_getElem_cons h]
    congr 1
    unfold gl
    rw [List.getD_eq_getElem?_getD, List.getElem?_eq_getElem h]
    rfl
  rw [this]
  simp [dII, hp]
attribute [push_cast] len_holT getL_holT HasC_holT okPath_holT
theorem filtL_yes {xs : List (List Int)} {p : List Int → Bool} {k : Nat} (h : k < xs.length) (hp : p (gl xs k) = true) : (xs.take (k + 1)).filter p = (xs.take k).filter p ++ [gl xs k] := by
  rw [tk_snocL h, List.filter_append]; simp [hp]
theorem filtL_no {xs : List (List Int)} {p : List Int → Bool} {k : Nat} (h : k < xs.length) (hp : p (gl xs k) = false) : (xs.take (k + 1)).filter p = (xs.take k).filter p := by
  rw [tk_snocL h, List.filter_append]; simp [hp]
theorem tfiltL_le (xs : List (List Int)) (p : List Int → Bool) (k : Nat) : ((xs.take k).filter p).length ≤ xs.length := Nat.le_trans (List.length_filter_le _ _) (by rw [List.length_take]; omega)
theorem subsL_row {xs : List Int} (k : Nat) : (gl (subsL xs) k).length ≤ xs.length := by
  rcases Nat.lt_or_ge k (2 ^ xs.length) with h | h
  · unfold subsL
    rw [subsT_gl h]
    exact pickL_le _ _
  · unfold gl subsL subsT
    rw [List.getD_eq_getElem?_getD, List.getElem?_eq_none (by simp; omega)]
    simp
theorem subsL_len (xs : List Int) : (subsL xs).length = 2 ^ xs.length := by simp [subsL, subsT]
set_option maxRecDepth 20000 in
set_option maxHeartbeats 4000000 in
theorem l18Parts_fn (xs : List Int) (hx : xs.length ≤ 4) : Fn Try.prog tyT 89 [.c (DI xs)] [.c (DII (subsL xs))] := by
  have h16 := fun i (hi : i ≤ 4) => p2_le hi
  have h1 := fun i => p2_pos i
  refine Fn_of (fn := Try.f89) (ts := [2]) Try.func89 (by kernel_rfl) rfl rfl (by rw [Try.ntmps89]; exact Nat.le_of_ble_eq_true rfl) rfl (by simp only [szA, List.mem_cons, List.not_mem_nil, or_false, forall_eq_or_imp, forall_eq, VT.cells, szL]; try decide) ?_
  rw [Try.ntmps89]
  simp only [push_cast, ↓brB_true, ↓brB_false, ↓reduceIte, zA, zB, zC, zD, zE, zF, zG, zH, zI, reduceCtorEq]
  refine awp_seq' fun K hK => ?_
  refine awp_region tyOk tyPos [] rfl ?_
  all_goals simp only [push_cast, ↓brB_true, ↓brB_false, ↓reduceIte, zA, zB, zC, zD, zE, zF, zG, zH, zI, reduceCtorEq]
  all_goals repeat' (first | (apply brB_mk <;> (intro hg; (try simp only [push_cast] at hg))) | apply And.intro | (intro hg; (try simp only [push_cast] at hg)))
  all_goals first | exact True.intro | exact rfl | contradiction | omega | with_reducible assumption | (rw [e9, subsT_gl (by omega)]; omega) | (have h9 := p2_int (n := i) (by omega); have h8 := h16 i (by omega); omega) | (exact getE_dII (by have h9 := p2_int (n := i) (by omega); simp only [subsT_len]; omega)) | skip
  all_goals first | (refine hK _ ?_; clear hK K) | (simp only [push_cast]; done)
  refine awp_seq' fun K hK => ?_
  refine awp_regionN false tyOk tyPos ?_ rfl ?_
  · kernel_rfl
  simp only [push_cast, ↓brB_true, ↓brB_false, ↓reduceIte, zA, zB, zC, zD, zE, zF, zG, zH, zI, reduceCtorEq]
  all_goals repeat' (first | (apply brB_mk <;> (intro hg; (try simp only [push_cast] at hg))) | apply And.intro | (intro hg; (try simp only [push_cast] at hg)))
  all_goals first | exact True.intro | exact rfl | contradiction | omega | with_reducible assumption | (rw [e9, subsT_gl (by omega)]; omega) | (have h9 := p2_int (n := i) (by omega); have h8 := h16 i (by omega); omega) | (exact getE_dII (by have h9 := p2_int (n := i) (by omega); simp only [subsT_len]; omega)) | skip
  all_goals first | (refine hK _ ?_; clear hK K) | (simp only [push_cast]; done)
  refine awp_settle 22 3 (Nat.le_of_ble_eq_true rfl) ?_
  simp only [push_cast, ↓brB_true, ↓brB_false, ↓reduceIte, zA, zB, zC, zD, zE, zF, zG, zH, zI, reduceCtorEq]
  refine awp_seq' fun K1 hK1 => ?_
  refine awp_seq' fun K hK => ?_
  refine awp_region tyOk tyPos [] rfl ?_
  all_goals simp only [push_cast, ↓brB_true, ↓brB_false, ↓reduceIte, zA, zB, zC, zD, zE, zF, zG, zH, zI, reduceCtorEq]
  all_goals repeat' (first | (apply brB_mk <;> (intro hg; (try simp only [push_cast] at hg))) | apply And.intro | (intro hg; (try simp only [push_cast] at hg)))
  all_goals first | exact True.intro | exact rfl | contradiction | omega | with_reducible assumption | (rw [e9, subsT_gl (by omega)]; omega) | (have h9 := p2_int (n := i) (by omega); have h8 := h16 i (by omega); omega) | (exact getE_dII (by have h9 := p2_int (n := i) (by omega); simp only [subsT_len]; omega)) | skip
  all_goals first | (refine hK _ ?_; clear hK K) | (simp only [push_cast]; done)
  refine awp_block ?_
  refine awp_loopU [3,4,5,6,9,10,11,12,13,14,15,16,17,18,19,20,21,22,23,24,25,26,27,28,29,30,31,32,33,34,35,36,37,38,39,40,41] [48] (fun (i : Nat) => [(4, .int .i64 i), (3, .sl 48 [] 0 (p2 i) 22)]) (fun i => []) (fun i => [(48, ⟨.ex, 22, dII (subsT (xs.take i) (p2 i)), none⟩)]) (fun i => i ≤ xs.length) (fun i => xs.length - i) 0 ?_ (by omega) ?_
  ·
    rw [show dII (subsT (xs.take 0) (p2 0)) = [D.lst 2 []] from rfl, show p2 0 = 1 from rfl]
    refine cov_of rfl ?_ ?_ ?_ <;> simp only [covS, covL, push_cast, ↓brB_true, ↓brB_false, ↓reduceIte, zA, zB, zC, zD, zE, zF, zG, zH, zI, reduceCtorEq]
  · rintro i hi KL0 hL0
    have hsl := subsT_len (xs.take i) (p2 i)
    have h1i := h1 i
    simp only [push_cast, ↓brB_true, ↓brB_false, ↓reduceIte, zA, zB, zC, zD, zE, zF, zG, zH, zI, reduceCtorEq]
    refine awp_seq' fun K2 hK2 => ?_
    refine awp_seq' fun K hK => ?_
    refine awp_region tyOk tyPos [] rfl ?_
    all_goals simp only [push_cast, ↓brB_true, ↓brB_false, ↓reduceIte, zA, zB, zC, zD, zE, zF, zG, zH, zI, reduceCtorEq]
    all_goals repeat' (first | (apply brB_mk <;> (intro hg; (try simp only [push_cast] at hg))) | apply And.intro | (intro hg; (try simp only [push_cast] at hg)))
    all_goals first | exact True.intro | exact rfl | contradiction | omega | with_reducible assumption | (rw [e9, subsT_gl (by omega)]; omega) | (have h9 := p2_int (n := i) (by omega); have h8 := h16 i (by omega); omega) | (exact getE_dII (by have h9 := p2_int (n := i) (by omega); simp only [subsT_len]; omega)) | skip
    all_goals first | (refine hK _ ?_; clear hK K) | (simp only [push_cast]; done)
    refine awp_cond rfl (fun hc => ?_) (fun hc => ?_) <;> (try simp only [push_cast] at hc)
    ·
      refine awp_skip ?_
      (try simp only [AThen, ABlk, reduceIte, zF]); refine hK2 _ ?_
      refine awp_seq' fun K3 hK3 => ?_
      refine awp_block ?_
      refine awp_seq' fun K hK => ?_
      refine awp_region tyOk tyPos [] rfl ?_
      all_goals simp only [push_cast, ↓brB_true, ↓brB_false, ↓reduceIte, zA, zB, zC, zD, zE, zF, zG, zH, zI, reduceCtorEq]
      all_goals repeat' (first | (apply brB_mk <;> (intro hg; (try simp only [push_cast] at hg))) | apply And.intro | (intro hg; (try simp only [push_cast] at hg)))
      all_goals first | exact True.intro | exact rfl | contradiction | omega | with_reducible assumption | (rw [e9, subsT_gl (by omega)]; omega) | (have h9 := p2_int (n := i) (by omega); have h8 := h16 i (by omega); omega) | (exact getE_dII (by have h9 := p2_int (n := i) (by omega); simp only [subsT_len]; omega)) | skip
      all_goals first | (refine hK _ ?_; clear hK K) | (simp only [push_cast]; done)
      refine awp_block ?_
      refine awp_loopU [3,5,6,15,17,18,19,20,21,22,23,24,25,26,27,28,29,30,31,32,33,34,35,36,37,38,39,40,41] [48] (fun (j : Nat) => [(5, .int .i64 ((p2 i : Nat) - j)), (3, .sl 48 [] 0 (p2 i + j) 22)]) (fun j => []) (fun j => [(48, ⟨.ex, 22, dII (subsT (xs.take (i + 1)) (p2 i + j)), none⟩)]) (fun j => j ≤ p2 i) (fun j => p2 i - j) 0 ?_ (by omega) ?_
      ·
        rw [Nat.add_zero, subsT_step0 (by omega), show ((p2 i : Int) - ((0 : Nat) : Int)) = (p2 i : Int) from by omega]
        refine cov_of rfl ?_ ?_ ?_ <;> simp only [covS, covL, push_cast, ↓brB_true, ↓brB_false, ↓reduceIte, zA, zB, zC, zD, zE, zF, zG, zH, zI, reduceCtorEq]
      · rintro j hj KL1 hL1
        have hsj := subsT_len (xs.take (i + 1)) (p2 i + j)
        have hpl := pickL_le (xs.take (i + 1)) j
        rw [List.length_take] at hpl
        simp only [push_cast, ↓brB_true, ↓brB_false, ↓reduceIte, zA, zB, zC, zD, zE, zF, zG, zH, zI, reduceCtorEq]
        refine awp_seq' fun K4 hK4 => ?_
        refine awp_seq' fun K hK => ?_
        refine awp_region tyOk tyPos [] rfl ?_
        all_goals simp only [push_cast, ↓brB_true, ↓brB_false, ↓reduceIte, zA, zB, zC, zD, zE, zF, zG, zH, zI, reduceCtorEq]
        all_goals repeat' (first | (apply brB_mk <;> (intro hg; (try simp only [push_cast] at hg))) | apply And.intro | (intro hg; (try simp only [push_cast] at hg)))
        all_goals first | exact True.intro | exact rfl | contradiction | omega | with_reducible assumption | (rw [e9, subsT_gl (by omega)]; omega) | (have h9 := p2_int (n := i) (by omega); have h8 := h16 i (by omega); omega) | (exact getE_dII (by have h9 := p2_int (n := i) (by omega); simp only [subsT_len]; omega)) | skip
        all_goals first | (refine hK _ ?_; clear hK K) | (simp only [push_cast]; done)
        refine awp_cond rfl (fun hc => ?_) (fun hc => ?_) <;> (try simp only [push_cast] at hc)
        ·
          refine awp_skip ?_
          (try simp only [AThen, ABlk, reduceIte, zF]); refine hK4 _ ?_
          refine awp_seq' fun K5 hK5 => ?_
          refine awp_block ?_
          have e9 : ((p2 i : Int) + j - 1 * 2 ^ (min i 64)).toNat = j := by rw [p2_int (by omega)]; omega
          refine awp_seq' fun K hK => ?_
          refine awp_region tyOk tyPos [] rfl ?_
          all_goals simp only [push_cast, ↓brB_true, ↓brB_false, ↓reduceIte, zA, zB, zC, zD, zE, zF, zG, zH, zI, reduceCtorEq]
          all_goals repeat' (first | (apply brB_mk <;> (intro hg; (try simp only [push_cast] at hg))) | apply And.intro | (intro hg; (try simp only [push_cast] at hg)))
          all_goals first | exact True.intro | exact rfl | contradiction | omega | with_reducible assumption | (rw [e9, subsT_gl (by omega)]; omega) | (have h9 := p2_int (n := i) (by omega); have h8 := h16 i (by omega); omega) | (exact getE_dII (by have h9 := p2_int (n := i) (by omega); simp only [subsT_len]; omega)) | skip
          all_goals first | (refine hK _ ?_; clear hK K) | (simp only [push_cast]; done)
          rw [e9, subsT_gl (by omega)]
          refine awp_regionN false tyOk tyPos ?_ rfl ?_
          · kernel_rfl
          simp only [push_cast, ↓brB_true, ↓brB_false, ↓reduceIte, zA, zB, zC, zD, zE, zF, zG, zH, zI, reduceCtorEq]
          all_goals repeat' (first | (apply brB_mk <;> (intro hg; (try simp only [push_cast] at hg))) | apply And.intro | (intro hg; (try simp only [push_cast] at hg)))
          all_goals first | exact True.intro | exact rfl | contradiction | omega | with_reducible assumption | (rw [e9, subsT_gl (by omega)]; omega) | (have h9 := p2_int (n := i) (by omega); have h8 := h16 i (by omega); omega) | (exact getE_dII (by have h9 := p2_int (n := i) (by omega); simp only [subsT_len]; omega)) | skip
          (try simp only [AThen, ABlk, reduceIte, zF]); refine hK5 _ ?_
          refine awp_settle 22 3 (Nat.le_of_ble_eq_true rfl) ?_
          simp only [push_cast, ↓brB_true, ↓brB_false, ↓reduceIte, zA, zB, zC, zD, zE, zF, zG, zH, zI, reduceCtorEq]
          refine awp_region tyOk tyPos [] rfl ?_
          all_goals simp only [push_cast, ↓brB_true, ↓brB_false, ↓reduceIte, zA, zB, zC, zD, zE, zF, zG, zH, zI, reduceCtorEq]
          all_goals repeat' (first | (apply brB_mk <;> (intro hg; (try simp only [push_cast] at hg))) | apply And.intro | (intro hg; (try simp only [push_cast] at hg)))
          all_goals first | exact True.intro | exact rfl | contradiction | omega | with_reducible assumption | (rw [e9, subsT_gl (by omega)]; omega) | (have h9 := p2_int (n := i) (by omega); have h8 := h16 i (by omega); omega) | (exact getE_dII (by have h9 := p2_int (n := i) (by omega); simp only [subsT_len]; omega)) | skip
          refine hL1 _ ⟨j + 1, by omega, by omega, ?_⟩
          (try rw [List.take_of_length_le (l := pickL (xs.take (i + 1)) j ++ [gi xs i]) (by rw [List.length_append]; exact Nat.le_refl _)])
          (try rw [List.take_of_length_le (l := subsT (xs.take (i + 1)) (p2 i + j)) (by omega)])
          rw [show p2 i + (j + 1) = p2 i + j + 1 from rfl, subsT_s, pick_hi2 (by omega) (by omega)]
          refine cov_of rfl ?_ ?_ ?_ <;> simp only [covS, covL, push_cast, ↓brB_true, ↓brB_false, ↓reduceIte, zA, zB, zC, zD, zE, zF, zG, zH, zI, reduceCtorEq]
          all_goals (try (refine congrArg (AV.int .i64) ?_; omega))
        ·
          refine awp_exit ?_
          have hjj : j = p2 i := by omega
          subst hjj
          (try simp only [AThen, ABlk, reduceIte, zF]); refine hK3 _ ?_
          refine awp_region tyOk tyPos [] rfl ?_
          all_goals simp only [push_cast, ↓brB_true, ↓brB_false, ↓reduceIte, zA, zB, zC, zD, zE, zF, zG, zH, zI, reduceCtorEq]
          all_goals repeat' (first | (apply brB_mk <;> (intro hg; (try simp only [push_cast] at hg))) | apply And.intro | (intro hg; (try simp only [push_cast] at hg)))
          all_goals first | exact True.intro | exact rfl | contradiction | omega | with_reducible assumption | (rw [e9, subsT_gl (by omega)]; omega) | (have h9 := p2_int (n := i) (by omega); have h8 := h16 i (by omega); omega) | (exact getE_dII (by have h9 := p2_int (n := i) (by omega); simp only [subsT_len]; omega)) | skip
          refine hL0 _ ⟨i + 1, by omega, by omega, ?_⟩
          rw [show p2 (i + 1) = p2 i + p2 i from p2_s i]
          refine cov_of rfl ?_ ?_ ?_ <;> simp only [covS, covL, push_cast, ↓brB_true, ↓brB_false, ↓reduceIte, zA, zB, zC, zD, zE, zF, zG, zH, zI, reduceCtorEq]
    ·
      refine awp_exit ?_
      have hii : i = xs.length := by omega
      subst hii
      rw [List.take_length]
      (try simp only [AThen, ABlk, reduceIte, zF]); refine hK1 _ ?_
      refine awp_seq' fun K hK => ?_
      refine awp_region tyOk tyPos [] rfl ?_
      all_goals simp only [push_cast, ↓brB_true, ↓brB_false, ↓reduceIte, zA, zB, zC, zD, zE, zF, zG, zH, zI, reduceCtorEq]
      all_goals repeat' (first | (apply brB_mk <;> (intro hg; (try simp only [push_cast] at hg))) | apply And.intro | (intro hg; (try simp only [push_cast] at hg)))
      all_goals first | exact True.intro | exact rfl | contradiction | omega | with_reducible assumption | (rw [e9, subsT_gl (by omega)]; omega) | (have h9 := p2_int (n := i) (by omega); have h8 := h16 i (by omega); omega) | (exact getE_dII (by have h9 := p2_int (n := i) (by omega); simp only [subsT_len]; omega)) | skip
      all_goals first | (refine hK _ ?_; clear hK K) | (simp only [push_cast]; done)
      refine awp_ret ?_
      (try simp only [AThen, ABlk])
      refine ⟨Or.inl rfl, ?_⟩
      simp only [RetOk, push_cast, ↓brB_true, ↓brB_false, ↓reduceIte, zA, zB, zC, zD, zE, zF, zG, zH, zI, reduceCtorEq]
      exact ⟨rfl, (subsL_len xs).symm⟩
end Go.Proofs.Ytbieekheapeopaa
