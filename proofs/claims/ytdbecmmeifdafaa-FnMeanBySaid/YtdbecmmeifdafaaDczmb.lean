/- the dice of the laws: a number below another one -/
import Derived.Test.YtdbecmmeifdafaaGDzmb
namespace Go.Proofs.Ytdbecmmeifdafaa
open Nat renaming reduceMod → zA, reduceMul → zB, reduceDiv → zC, reduceAdd → zD, reduceSub → zE, reduceEqDiff → zF, reduceBEq → zG, reduceLT → zH, reduceLeDiff → zI
open Go.RowKit
set_option linter.unusedVariables false
set_option linter.unusedSimpArgs false

def dU (xs : List Int) : List D := xs.map (.int .u8)
theorem len_dU (xs : List Int) : (dU xs).length = xs.length := by simp [dU]
theorem getI_dU (xs : List Int) (i : Nat) : getI (dU xs) i = gi xs i := by
  unfold getI dU gi
  rw [List.getElem?_map, List.getD_eq_getElem?_getD]
  cases xs[i]? <;> rfl
theorem HasC_dU (xs : List Int) (i : Nat) : HasC (.int .u8) (dU xs) i = (i < xs.length) := by
  unfold HasC dU
  rw [List.getElem?_map]
  apply propext
  constructor
  · rintro ⟨n, h⟩
    cases hx : xs[i]? with
    | none => rw [hx] at h; cases h
    | some y => exact (List.getElem?_eq_some_iff.1 hx).1
  · intro h
    rw [List.getElem?_eq_getElem h]
    exact ⟨_, rfl⟩
theorem take_dU (xs : List Int) (n : Nat) : (dU xs).take n = dU (xs.take n) := by simp [dU]
theorem drop_dU (xs : List Int) (n : Nat) : (dU xs).drop n = dU (xs.drop n) := by simp [dU]
theorem toNat33 : Int.toNat 33 = 33 := rfl
theorem min3364 : min 33 64 = 33 := rfl
theorem arC_i64 (n : Int) : arC .i64 n = (.int .i64 n, i64ok n) := rfl
attribute [push_cast] toNat33 min3364 arC_i64 len_dU getI_dU HasC_dU take_dU drop_dU
/-- Bytes. -/
def BytesOk (xs : List Int) : Prop := xs.length ≤ 4096 ∧ ∀ k, k < xs.length → 0 ≤ gi xs k ∧ gi xs k ≤ 255
theorem and_rg {a m : Int} (h0 : 0 ≤ m) (h1 : m ≤ 1073741823) : 0 ≤ andI .u64 a m ∧ andI .u64 a m ≤ m := by
  have e : (BitVec.ofInt 64 a &&& BitVec.ofInt 64 m).toNat ≤ m.toNat := by
    rw [BitVec.toNat_and]
    refine Nat.le_trans Nat.and_le_right ?_
    rw [BitVec.toNat_ofInt]
    have : ((2 ^ 64 : Nat) : Int) = 18446744073709551616 := by decide
    rw [this]
    omega
  unfold andI
  have hb : IntKind.u64.bits = 64 := rfl
  have hw : ∀ n : Nat, (n : Int) ≤ 1073741823 → IntKind.u64.wrap (n : Int) = n := fun n hn => by
    unfold IntKind.wrap
    simp only [IntKind.bits, IntKind.signed]
    have : ((2 : Int) ^ 64) = 18446744073709551616 := by decide
    simp [this]
    omega
  show 0 ≤ IntKind.u64.wrap ((BitVec.ofInt 64 a &&& BitVec.ofInt 64 m).toNat : Int) ∧ IntKind.u64.wrap ((BitVec.ofInt 64 a &&& BitVec.ofInt 64 m).toNat : Int) ≤ m
  rw [hw _ (by omega)]
  omega
def dH (h : Int) : Int := IntKind.u64.wrap (IntKind.u64.wrap (h * 6364136223846793005) + 1442695040888963407)
def dX (h : Int) : Int := andI .u64 (dH h / 2 ^ 33) 16777215
theorem dX_rg (h : Int) : 0 ≤ dX h ∧ dX h ≤ 16777215 := and_rg (by decide) (by decide)
def dI1 (code : List Int) (i : Int) : Int := if i < code.length then i + 1 else i
def dR (code : List Int) (i h n : Int) : Int := (if i < code.length then dX h + gi code i.toNat else dX h).tmod n
theorem dI1_rg {code : List Int} {i : Int} (h : 0 ≤ i ∧ i ≤ code.length) : 0 ≤ dI1 code i ∧ dI1 code i ≤ code.length := by unfold dI1; split <;> omega
theorem dR_rg {code : List Int} {i h n : Int} (hc : BytesOk code) (hi : 0 ≤ i) (hn : 1 ≤ n) : 0 ≤ dR code i h n ∧ dR code i h n < n := by
  have h1 := dX_rg h
  have h2 : 0 ≤ (if i < code.length then dX h + gi code i.toNat else dX h) := by
    split
    · have := hc.2 i.toNat (by omega); omega
    · omega
  unfold dR
  exact ⟨Int.tmod_nonneg _ h2, Int.tmod_lt_of_pos _ (by omega)⟩
/-- What the dice hold. -/
@[reducible] def dDc (code : List Int) (i h : Int) : List D := [.lst 5 (dU code), .int .i64 i, .int .u64 h]
set_option maxRecDepth 20000 in
set_option maxHeartbeats 4000000 in
theorem below0_fn (code : List Int) (hby : BytesOk code) (i h : Int) (hi : 0 ≤ i ∧ i ≤ code.length) (n : Int) (hn : 1 ≤ n) : FnB Try.prog tyT 44 (dDc code i h) [.c (.int .i64 n)] (dDc code (dI1 code i) (dH h)) [.c (.int .i64 (dR code i h n))] := by
  have hX : 0 ≤ andI .u64 (IntKind.u64.wrap (IntKind.u64.wrap (h * 6364136223846793005) + 1442695040888963407) / 2 ^ 33) 16777215 ∧ andI .u64 (IntKind.u64.wrap (IntKind.u64.wrap (h * 6364136223846793005) + 1442695040888963407) / 2 ^ 33) 16777215 ≤ 16777215 := dX_rg h
  have hcl := hby.1
  unfold dDc
  refine FnB_of (fn := Try.f44) (rs := [.tmp 4]) tyOk tyPos Try.func44 (by kernel_rfl) rfl rfl (by rw [Try.ntmps44]; exact Nat.le_of_ble_eq_true rfl) rfl (by simp only [szA, List.mem_cons, List.not_mem_nil, or_false, forall_eq_or_imp, forall_eq, VT.cells, szL]; try decide) (Nat.le_of_ble_eq_true rfl) (by simp only [szL]; decide) (Nat.le_of_ble_eq_true rfl) rfl ?_
  rw [Try.ntmps44]
  simp only [push_cast, ↓brB_true, ↓brB_false, ↓reduceIte, zA, zB, zC, zD, zE, zF, zG, zH, zI, reduceCtorEq]
  refine awp_seq' fun K hK => ?_
  refine awp_region tyOk tyPos [] rfl ?_
  simp only [push_cast, ↓brB_true, ↓brB_false, ↓reduceIte, zA, zB, zC, zD, zE, zF, zG, zH, zI, reduceCtorEq]
  repeat' apply And.intro
  all_goals first | exact True.intro | exact rfl | omega | with_reducible assumption | (simp only [List.length_set, List.length_append, List.length_replicate, List.length_cons, List.length_nil]; omega) | skip
  all_goals first | (refine hK _ ?_; clear hK K) | (simp only [push_cast]; done)
  refine awp_seq' fun K hK => ?_
  refine awp_region tyOk tyPos [] rfl ?_
  simp only [push_cast, ↓brB_true, ↓brB_false, ↓reduceIte, zA, zB, zC, zD, zE, zF, zG, zH, zI, reduceCtorEq]
  repeat' apply And.intro
  all_goals first | exact True.intro | exact rfl | omega | with_reducible assumption | (simp only [List.length_set, List.length_append, List.length_replicate, List.length_cons, List.length_nil]; omega) | skip
  all_goals first | (refine hK _ ?_; clear hK K) | (simp only [push_cast]; done)
  refine awp_seq' fun K hK => ?_
  refine awp_region tyOk tyPos [] rfl ?_
  all_goals refine aops_cut 6 fun K9 hK9 => ?_
  all_goals simp only [push_cast, ↓brB_true, ↓brB_false, ↓reduceIte, zA, zB, zC, zD, zE, zF, zG, zH, zI, reduceCtorEq]
  all_goals repeat' (first | (apply brB_mk <;> (intro hg; (try simp only [push_cast] at hg))) | apply And.intro | (intro hg; (try simp only [push_cast] at hg)))
  all_goals first | exact True.intro | exact rfl | contradiction | omega | with_reducible assumption | trivial | skip
  all_goals first | (refine hK9 _ ?_; clear hK9 K9) | (simp only [push_cast]; done)
  all_goals simp only [push_cast, ↓brB_true, ↓brB_false, ↓reduceIte, zA, zB, zC, zD, zE, zF, zG, zH, zI, reduceCtorEq]
  all_goals repeat' (first | (apply brB_mk <;> (intro hg; (try simp only [push_cast] at hg))) | apply And.intro | (intro hg; (try simp only [push_cast] at hg)))
  all_goals first | exact True.intro | exact rfl | contradiction | omega | with_reducible assumption | trivial | skip
  all_goals first | (refine hK _ ?_; clear hK K) | (simp only [push_cast]; done)
  refine awp_seq' fun K1 hK1 => ?_
  refine awp_seq' fun K hK => ?_
  refine awp_regionD0 false tyOk tyPos tyMix ?_ rfl ?_
  · kernel_rfl
  intro C hC
  simp only [push_cast, ↓brB_true, ↓brB_false, ↓reduceIte, zA, zB, zC, zD, zE, zF, zG, zH, zI, reduceCtorEq]
  repeat' apply And.intro
  all_goals first | omega | with_reducible assumption | (refine hC _ ?_; kernel_rfl) | (simp only [List.length_set, List.length_append, List.length_replicate, List.length_cons, List.length_nil]; omega) | skip
  all_goals first | (refine hK _ ?_; clear hC C hK K) | (simp only [push_cast]; done)
  refine awp_cond rfl (fun hc => ?_) (fun hc => ?_) <;> (try simp only [push_cast] at hc)
  ·
    have hcb := hby.2 i.toNat (by omega)
    refine awp_seq' fun K hK => ?_
    refine awp_regionD0 false tyOk tyPos tyMix ?_ rfl ?_
    · kernel_rfl
    intro C hC
    simp only [push_cast, ↓brB_true, ↓brB_false, ↓reduceIte, zA, zB, zC, zD, zE, zF, zG, zH, zI, reduceCtorEq]
    repeat' apply And.intro
    all_goals first | omega | with_reducible assumption | (refine hC _ ?_; kernel_rfl) | (simp only [List.length_set, List.length_append, List.length_replicate, List.length_cons, List.length_nil]; omega) | skip
    all_goals first | (refine hK _ ?_; clear hC C hK K) | (simp only [push_cast]; done)
    refine awp_region tyOk tyPos [] rfl ?_
    simp only [push_cast, ↓brB_true, ↓brB_false, ↓reduceIte, zA, zB, zC, zD, zE, zF, zG, zH, zI, reduceCtorEq]
    repeat' apply And.intro
    all_goals first | exact True.intro | exact rfl | omega | with_reducible assumption | (simp only [List.length_set, List.length_append, List.length_replicate, List.length_cons, List.length_nil]; omega) | skip
    (try simp only [AThen, ABlk, reduceIte, zF]); refine hK1 _ ?_
    refine awp_seq' fun K hK => ?_
    refine awp_region tyOk tyPos [] rfl ?_
    simp only [push_cast, ↓brB_true, ↓brB_false, ↓reduceIte, zA, zB, zC, zD, zE, zF, zG, zH, zI, reduceCtorEq]
    repeat' apply And.intro
    all_goals first | exact True.intro | exact rfl | omega | with_reducible assumption | (simp only [List.length_set, List.length_append, List.length_replicate, List.length_cons, List.length_nil]; omega) | skip
    all_goals first | (refine hK _ ?_; clear hK K) | (simp only [push_cast]; done)
    refine awp_ret ?_
    (try simp only [AThen, ABlk])
    refine ⟨Or.inl rfl, ?_⟩
    simp only [RetB, RetOk, cellsB, resVars, resVar, push_cast, ↓brB_true, ↓brB_false, ↓reduceIte, zA, zB, zC, zD, zE, zF, zG, zH, zI, reduceCtorEq]
    all_goals first | exact ⟨by unfold dR; rw [if_pos hc]; rfl, (by unfold dI1; rw [if_pos hc]), rfl⟩ | exact ⟨by unfold dR; rw [if_neg hc]; rfl, (by unfold dI1; rw [if_neg hc]), rfl⟩
  ·
    refine awp_skip ?_
    (try simp only [AThen, ABlk, reduceIte, zF]); refine hK1 _ ?_
    refine awp_seq' fun K hK => ?_
    refine awp_region tyOk tyPos [] rfl ?_
    simp only [push_cast, ↓brB_true, ↓brB_false, ↓reduceIte, zA, zB, zC, zD, zE, zF, zG, zH, zI, reduceCtorEq]
    repeat' apply And.intro
    all_goals first | exact True.intro | exact rfl | omega | with_reducible assumption | (simp only [List.length_set, List.length_append, List.length_replicate, List.length_cons, List.length_nil]; omega) | skip
    all_goals first | (refine hK _ ?_; clear hK K) | (simp only [push_cast]; done)
    refine awp_ret ?_
    (try simp only [AThen, ABlk])
    refine ⟨Or.inl rfl, ?_⟩
    simp only [RetB, RetOk, cellsB, resVars, resVar, push_cast, ↓brB_true, ↓brB_false, ↓reduceIte, zA, zB, zC, zD, zE, zF, zG, zH, zI, reduceCtorEq]
    all_goals first | exact ⟨by unfold dR; rw [if_pos hc]; rfl, (by unfold dI1; rw [if_pos hc]), rfl⟩ | exact ⟨by unfold dR; rw [if_neg hc]; rfl, (by unfold dI1; rw [if_neg hc]), rfl⟩
end Go.Proofs.Ytdbecmmeifdafaa
