/- lists of places: the data, the laws' helpers -/
import Derived.Test.YtklconkoamoabaaB6zrd
import Derived.Test.YtklconkoamoabaaB7zrd
import Derived.Test.YtklconkoamoabaaGDzrd
import Derived.Shelf.SortG.Plain
import Derived.Shelf.SortG.SortNone
import Derived.Test.YtklconkoamoabaaProg
import Derived.Sort.OwnSortedInts
namespace Go.Proofs.Ytklconkoamoabaa
open Nat renaming reduceMod → zA, reduceMul → zB, reduceDiv → zC, reduceAdd → zD, reduceSub → zE, reduceEqDiff → zF, reduceBEq → zG, reduceLT → zH, reduceLeDiff → zI
open Go.RowKit
set_option linter.unusedVariables false
set_option linter.unusedSimpArgs false

def dPls (ps : List Plc) : List D := ps.flatMap dPlc
def gq (ps : List Plc) (k : Nat) : Plc := ps.getD k ⟨0, []⟩
theorem dPls_cons (p : Plc) (ps : List Plc) : dPls (p :: ps) = .int .i64 p.at_ :: DI p.record :: dPls ps := rfl
theorem m2q (n : Nat) : n * 2 / 2 = n := by omega
theorem len_dPls (ps : List Plc) : (dPls ps).length = ps.length * 2 := by
  induction ps with
  | nil => rfl
  | cons p ps ih => rw [dPls_cons, List.length_cons, List.length_cons, ih, List.length_cons]; omega
theorem app_dPls (ps qs : List Plc) : dPls (ps ++ qs) = dPls ps ++ dPls qs := List.flatMap_append ..
theorem app1_dPls (ps : List Plc) (x : Int) (r : List Int) : dPls ps ++ [D.int .i64 x, D.lst 2 (dI r)] = dPls (ps ++ [⟨x, r⟩]) := by rw [app_dPls]; rfl
theorem take_dPlsA (ps : List Plc) : (dPls ps).take (ps.length * 2) = dPls ps := List.take_of_length_le (by rw [len_dPls]; exact Nat.le_refl _)
theorem gq_lt {ps : List Plc} {k : Nat} (h : k < ps.length) : ps[k]? = some (gq ps k) := by
  unfold gq
  rw [List.getD_eq_getElem?_getD, List.getElem?_eq_getElem h]
  rfl
theorem gq_ge {ps : List Plc} {k : Nat} (h : ps.length ≤ k) : gq ps k = ⟨0, []⟩ := by
  unfold gq
  rw [List.getD_eq_getElem?_getD, List.getElem?_eq_none h]
  rfl
theorem gq_mem {ps : List Plc} {k : Nat} (h : k < ps.length) : gq ps k ∈ ps := List.mem_of_getElem? (gq_lt h)
theorem tk_snocQ {ps : List Plc} {k : Nat} (h : k < ps.length) : ps.take (k + 1) = ps.take k ++ [gq ps k] := by rw [List.take_add_one, gq_lt h]; rfl
theorem dPls_at0 (ps : List Plc) (k : Nat) : (dPls ps)[k * 2]? = if k < ps.length then some (.int .i64 (gq ps k).at_) else none := by
  induction ps generalizing k with
  | nil => rfl
  | cons p ps ih =>
    cases k with
    | zero => rfl
    | succ k =>
      rw [show (k + 1) * 2 = k * 2 + 1 + 1 from by omega, dPls_cons, List.getElem?_cons_succ, List.getElem?_cons_succ, ih, List.length_cons]
      simp only [gq, List.getD_cons_succ]
      split <;> split <;> first | rfl | omega
theorem dPls_at1 (ps : List Plc) (k : Nat) : (dPls ps)[k * 2 + 1]? = if k < ps.length then some (DI (gq ps k).record) else none := by
  induction ps generalizing k with
  | nil => rfl
  | cons p ps ih =>
    cases k with
    | zero => rfl
    | succ k =>
      rw [show (k + 1) * 2 + 1 = k * 2 + 1 + 1 + 1 from by omega, dPls_cons, List.getElem?_cons_succ, List.getElem?_cons_succ, ih, List.length_cons]
      simp only [gq, List.getD_cons_succ]
      split <;> split <;> first | rfl | omega
theorem getI_dPls (ps : List Plc) (k : Nat) : getI (dPls ps) (k * 2) = (gq ps k).at_ := by
  unfold getI
  rw [dPls_at0]
  by_cases h : k < ps.length
  · rw [if_pos h]
  · rw [if_neg h, gq_ge (by omega)]
theorem getL_dPls (ps : List Plc) (k : Nat) : getL (dPls ps) (k * 2 + 1) = dI (gq ps k).record := by
  unfold getL
  rw [dPls_at1]
  by_cases h : k < ps.length
  · rw [if_pos h]
  · rw [if_neg h, gq_ge (by omega)]; rfl
theorem getE_dPls {ps : List Plc} {k : Nat} (h : k < ps.length) : getE (dPls ps) (k * 2 + 1) = 2 := by
  unfold getE
  rw [dPls_at1, if_pos h]
theorem HasC_dPls0 (ps : List Plc) (k : Nat) : HasC (.int .i64) (dPls ps) (k * 2) = (k < ps.length) := by
  unfold HasC
  rw [dPls_at0]
  apply propext
  constructor
  · rintro ⟨n, h⟩; split at h; assumption; cases h
  · intro h; rw [if_pos h]; exact ⟨_, rfl⟩
theorem HasC_dPls1 (ps : List Plc) (k : Nat) : HasC (.sl 2) (dPls ps) (k * 2 + 1) = (k < ps.length) := by
  unfold HasC
  rw [dPls_at1]
  apply propext
  constructor
  · rintro ⟨n, h⟩; split at h; assumption; cases h
  · intro h; rw [if_pos h]; exact ⟨_, rfl⟩
theorem okPath_dPls (ps : List Plc) (k : Nat) : okPath (dPls ps) [k * 2 + 1] = (k < ps.length) := by
  unfold okPath
  rw [dPls_at1]
  apply propext
  constructor
  · rintro ⟨e, ys, h, -⟩; split at h; assumption; cases h
  · intro h; rw [if_pos h]; exact ⟨_, _, rfl, trivial⟩
theorem set_dPls0 (ps : List Plc) (k : Nat) (n : Int) : (dPls ps).set (k * 2) (.int .i64 n) = dPls (ps.set k ⟨n, (gq ps k).record⟩) := by
  induction ps generalizing k with
  | nil => simp [dPls]
  | cons p ps ih =>
    cases k with
    | zero => rfl
    | succ k => rw [show (k + 1) * 2 = k * 2 + 1 + 1 from by omega, dPls_cons, List.set_cons_succ, List.set_cons_succ, ih, List.set_cons_succ, dPls_cons]; rfl
theorem set_dPls1 (ps : List Plc) (k : Nat) (r : List Int) : (dPls ps).set (k * 2 + 1) (.lst 2 (dI r)) = dPls (ps.set k ⟨(gq ps k).at_, r⟩) := by
  induction ps generalizing k with
  | nil => simp [dPls]
  | cons p ps ih =>
    cases k with
    | zero => rfl
    | succ k => rw [show (k + 1) * 2 + 1 = k * 2 + 1 + 1 + 1 from by omega, dPls_cons, List.set_cons_succ, List.set_cons_succ, ih, List.set_cons_succ, dPls_cons]; rfl
attribute [push_cast] m2q len_dPls take_dPlsA app1_dPls getI_dPls getL_dPls HasC_dPls0 HasC_dPls1 okPath_dPls set_dPls0 set_dPls1
def cQ (ps : List Plc) : Nat := (ps.map fun p => 1 + p.record.length).sum
theorem cQ_snoc (ps : List Plc) (p : Plc) : cQ (ps ++ [p]) = cQ ps + (1 + p.record.length) := by simp [cQ]
theorem cQ_take {ps : List Plc} {k : Nat} (h : k < ps.length) : cQ (ps.take (k + 1)) = cQ (ps.take k) + 1 + (gq ps k).record.length := by rw [tk_snocQ h, cQ_snoc]; omega
theorem cQ_app (a b : List Plc) : cQ (a ++ b) = cQ a + cQ b := by simp [cQ]
theorem cQ_take_le (ps : List Plc) (k : Nat) : cQ (ps.take k) ≤ cQ ps := by
  have h := List.take_append_drop k ps
  have h2 := cQ_app (ps.take k) (ps.drop k)
  rw [h] at h2
  omega
def mkQ : Int → List Plc → List Plc
  | _, [] => []
  | k, p :: ps => ⟨k, iot (k + 1) p.record.length⟩ :: mkQ (k + 1 + p.record.length) ps
theorem mkQ_len : ∀ (k : Int) (ps : List Plc), (mkQ k ps).length = ps.length
  | _, [] => rfl
  | k, p :: ps => by rw [mkQ, List.length_cons, mkQ_len, List.length_cons]
theorem mkQ_snoc : ∀ (k : Int) (ps : List Plc) (p : Plc), mkQ k (ps ++ [p]) = mkQ k ps ++ [⟨k + cQ ps, iot (k + cQ ps + 1) p.record.length⟩]
  | k, [], p => by simp [mkQ, cQ]
  | k, q :: ps, p => by
    rw [List.cons_append, mkQ, mkQ_snoc, mkQ, List.cons_append]
    have e : k + 1 + (q.record.length : Int) + (cQ ps : Int) = k + cQ (q :: ps) := by simp [cQ]; omega
    rw [e]
def mq (k : Int) (ps : List Plc) (j : Nat) : List Plc := mkQ k (ps.take j) ++ ps.drop j
theorem mq_0 (k : Int) (ps : List Plc) : mq k ps 0 = ps := rfl
theorem mq_all (k : Int) (ps : List Plc) : mq k ps ps.length = mkQ k ps := by simp [mq]
theorem mq_len {k : Int} {ps : List Plc} {j : Nat} (h : j ≤ ps.length) : (mq k ps j).length = ps.length := by simp [mq, mkQ_len]; omega
theorem mq_at {k : Int} {ps : List Plc} {j : Nat} (h : j < ps.length) : gq (mq k ps j) j = gq ps j := by
  have hl : (mkQ k (ps.take j)).length = j := by rw [mkQ_len, List.length_take]; omega
  unfold gq mq
  rw [List.getD_eq_getElem?_getD, List.getD_eq_getElem?_getD, List.getElem?_append_right (by omega), hl, Nat.sub_self, List.getElem?_drop]
  rfl
theorem gq_set {ps : List Plc} {j : Nat} {p : Plc} (h : j < ps.length) : gq (ps.set j p) j = p := by
  unfold gq
  rw [List.getD_eq_getElem?_getD, List.getElem?_set_self h]
  rfl
theorem mq_set {k : Int} {ps : List Plc} {j : Nat} (h : j < ps.length) : (mq k ps j).set j ⟨k + cQ (ps.take j), iot (k + cQ (ps.take j) + 1) (gq ps j).record.length⟩ = mq k ps (j + 1) := by
  have hl : (mkQ k (ps.take j)).length = j := by rw [mkQ_len, List.length_take]; omega
  have hd : ps.drop j = gq ps j :: ps.drop (j + 1) := by
    rw [List.drop_eq_getElem_cons h]
    have := gq_lt h
    rw [List.getElem?_eq_getElem h] at this
    rw [Option.some.inj this]
  unfold mq
  rw [List.set_append_right _ _ (by omega), hl, Nat.sub_self, hd, List.set_cons_zero, tk_snocQ h, mkQ_snoc, List.append_assoc]
  rfl
theorem mkQ_at {k : Int} {ps : List Plc} {j : Nat} (h : j < ps.length) : gq (mkQ k ps) j = ⟨k + cQ (ps.take j), iot (k + cQ (ps.take j) + 1) (gq ps j).record.length⟩ := by
  induction ps generalizing k j with
  | nil => simp at h
  | cons p ps ih =>
    cases j with
    | zero => simp [mkQ, gq, cQ]
    | succ j =>
      have h1 := ih (k := k + 1 + p.record.length) (j := j) (by simpa using h)
      rw [mkQ, show gq (⟨k, iot (k + 1) p.record.length⟩ :: mkQ (k + 1 + p.record.length) ps) (j + 1) = gq (mkQ (k + 1 + p.record.length) ps) j from rfl, h1, show gq (p :: ps) (j + 1) = gq ps j from rfl, List.take_succ_cons]
      have e : k + 1 + (p.record.length : Int) + (cQ (ps.take j) : Int) = k + cQ (p :: ps.take j) := by simp [cQ]; omega
      rw [e]
def QLn (B : Nat) (ps : List Plc) : Prop := ps.length ≤ B ∧ ∀ p ∈ ps, p.record.length ≤ B
theorem gq_le {B : Nat} {ps : List Plc} (h : QLn B ps) (k : Nat) : (gq ps k).record.length ≤ B := by
  rcases Nat.lt_or_ge k ps.length with hk | hk
  · exact h.2 _ (gq_mem hk)
  · rw [gq_ge hk]; exact Nat.zero_le _
theorem cQ_le {B : Nat} {ps : List Plc} (h : ∀ p ∈ ps, p.record.length ≤ B) : cQ ps ≤ ps.length * (B + 1) := by
  induction ps with
  | nil => exact Nat.zero_le _
  | cons p ps ih =>
    have h1 := ih fun q hq => h q (List.mem_cons_of_mem _ hq)
    have h2 := h p List.mem_cons_self
    have e : cQ (p :: ps) = 1 + p.record.length + cQ ps := by simp [cQ]
    rw [e, List.length_cons, Nat.add_mul]
    omega
theorem cnt_QS {ps : List Plc} (h : QLn 1048576 ps) : cQ ps ≤ 2199023255552 ∧ ps.length ≤ 1048576 := by
  have h1 := cQ_le h.2
  have h2 : ps.length * (1048576 + 1) ≤ 1048576 * (1048576 + 1) := Nat.mul_le_mul_right _ h.1
  exact ⟨by omega, h.1⟩
set_option maxRecDepth 20000 in
set_option maxHeartbeats 4000000 in
theorem eqQS_fn (ps : List Plc) (ha : QLn 1048576 ps) : Fn Try.prog tyT 14 [.c (.lst 78 (dPls ps)), .c (.lst 78 (dPls ps))] [.c (.bool true)] := by
  have hl := ha.1
  have hQ := fun k => eqPlc_fn (gq ps k) ⟨gq_le ha k⟩
  unfold dPlc at hQ
  refine Fn_of (fn := Try.f14) (ts := [4]) Try.func14 (by kernel_rfl) rfl rfl (by rw [Try.ntmps14]; exact Nat.le_of_ble_eq_true rfl) rfl (by simp only [szA, List.mem_cons, List.not_mem_nil, or_false, forall_eq_or_imp, forall_eq, VT.cells, szL]; try decide) ?_
  rw [Try.ntmps14]
  simp only [push_cast, ↓brB_true, ↓brB_false, ↓reduceIte, zA, zB, zC, zD, zE, zF, zG, zH, zI, reduceCtorEq]
  refine awp_seq' fun K hK => ?_
  refine awp_region tyOk tyPos [] rfl ?_
  all_goals simp only [push_cast, ↓brB_true, ↓brB_false, ↓reduceIte, zA, zB, zC, zD, zE, zF, zG, zH, zI, reduceCtorEq]
  all_goals repeat' (first | (apply brB_mk <;> (intro hg; (try simp only [push_cast] at hg))) | apply And.intro | (intro hg; (try simp only [push_cast] at hg)))
  all_goals first | exact gA | (exact getE_dPls (by omega)) | skip
  all_goals first | (refine hK _ ?_; clear hK K) | (simp only [push_cast]; done)
  refine awp_seq' fun K1 hK1 => ?_
  refine awp_seq' fun K hK => ?_
  refine awp_region tyOk tyPos [] rfl ?_
  all_goals simp only [push_cast, ↓brB_true, ↓brB_false, ↓reduceIte, zA, zB, zC, zD, zE, zF, zG, zH, zI, reduceCtorEq]
  all_goals repeat' (first | (apply brB_mk <;> (intro hg; (try simp only [push_cast] at hg))) | apply And.intro | (intro hg; (try simp only [push_cast] at hg)))
  all_goals first | exact gA | (exact getE_dPls (by omega)) | skip
  all_goals first | (refine hK _ ?_; clear hK K) | (simp only [push_cast]; done)
  refine awp_cond rfl (fun hc => ?_) (fun hc => ?_)
  skip
  · exfalso; first | (cases hc; done) | (simp only [push_cast] at hc; done) | (simp only [push_cast] at hc; omega) | omega
  refine awp_skip ?_
  (try simp only [AThen, ABlk, reduceIte, zF]); refine hK1 _ ?_
  refine awp_seq' fun K2 hK2 => ?_
  refine awp_seq' fun K hK => ?_
  refine awp_region tyOk tyPos [] rfl ?_
  all_goals simp only [push_cast, ↓brB_true, ↓brB_false, ↓reduceIte, zA, zB, zC, zD, zE, zF, zG, zH, zI, reduceCtorEq]
  all_goals repeat' (first | (apply brB_mk <;> (intro hg; (try simp only [push_cast] at hg))) | apply And.intro | (intro hg; (try simp only [push_cast] at hg)))
  all_goals first | exact gA | (exact getE_dPls (by omega)) | skip
  all_goals first | (refine hK _ ?_; clear hK K) | (simp only [push_cast]; done)
  refine awp_block ?_
  refine awp_loopU [4,5,11,12,13,14,15,16,17,18,19,20,21,22,23,24,25,26] [] (fun (k : Nat) => [(5, .int .i64 k)]) (fun k => []) (fun k => []) (fun k => k ≤ ps.length) (fun k => ps.length - k) 0 ?_ (by omega) ?_
  ·
    refine cov_of rfl ?_ ?_ ?_ <;> simp only [covS, covL, push_cast, ↓brB_true, ↓brB_false, ↓reduceIte, zA, zB, zC, zD, zE, zF, zG, zH, zI, reduceCtorEq]
  · rintro k hk KL0 hL0
    simp only [push_cast, ↓brB_true, ↓brB_false, ↓reduceIte, zA, zB, zC, zD, zE, zF, zG, zH, zI, reduceCtorEq]
    refine awp_seq' fun K3 hK3 => ?_
    refine awp_seq' fun K hK => ?_
    refine awp_region tyOk tyPos [] rfl ?_
    all_goals simp only [push_cast, ↓brB_true, ↓brB_false, ↓reduceIte, zA, zB, zC, zD, zE, zF, zG, zH, zI, reduceCtorEq]
    all_goals repeat' (first | (apply brB_mk <;> (intro hg; (try simp only [push_cast] at hg))) | apply And.intro | (intro hg; (try simp only [push_cast] at hg)))
    all_goals first | exact gA | (exact getE_dPls (by omega)) | skip
    all_goals first | (refine hK _ ?_; clear hK K) | (simp only [push_cast]; done)
    refine awp_cond rfl (fun hc => ?_) (fun hc => ?_) <;> (try simp only [push_cast] at hc)
    ·
      refine awp_skip ?_
      (try simp only [AThen, ABlk, reduceIte, zF]); refine hK3 _ ?_
      refine awp_seq' fun K4 hK4 => ?_
      refine awp_block ?_
      refine awp_seq' fun K hK => ?_
      refine awp_regionD1 false tyOk tyPos tyMix ?_ rfl ?_
      · kernel_rfl
      intro E hE
      all_goals refine lexF_cut 9 (by decide) fun K9 hK9 => ?_
      all_goals simp only [push_cast, ↓brB_true, ↓brB_false, ↓reduceIte, zA, zB, zC, zD, zE, zF, zG, zH, zI, reduceCtorEq]
      all_goals repeat' (first | (apply brB_mk <;> (intro hg; (try simp only [push_cast] at hg))) | (refine ⟨_, hQ k, ?_⟩; simp only [push_cast, ↓brB_true, ↓brB_false, ↓reduceIte, zA, zB, zC, zD, zE, zF, zG, zH, zI, reduceCtorEq]) | apply And.intro | (intro hg; (try simp only [push_cast] at hg)))
      all_goals first | exact gA | (exact getE_dPls (by omega)) | skip
      all_goals first | (refine hK9 _ _ ?_; clear hK9 K9) | (simp only [push_cast]; done)
      all_goals simp only [push_cast, ↓brB_true, ↓brB_false, ↓reduceIte, zA, zB, zC, zD, zE, zF, zG, zH, zI, reduceCtorEq]
      all_goals repeat' (first | (apply brB_mk <;> (intro hg; (try simp only [push_cast] at hg))) | (refine ⟨_, hQ k, ?_⟩; simp only [push_cast, ↓brB_true, ↓brB_false, ↓reduceIte, zA, zB, zC, zD, zE, zF, zG, zH, zI, reduceCtorEq]) | apply And.intro | (intro hg; (try simp only [push_cast] at hg)))
      all_goals first | exact gA | (refine hE _ _ ?_ ?_; kernel_rfl) | (exact getE_dPls (by omega)) | skip
      all_goals clear hE E
      all_goals first | (refine hK _ ?_; clear hK K) | (simp only [push_cast]; done)
      refine awp_cond rfl (fun hc => ?_) (fun hc => ?_)
      skip
      · exfalso; first | (cases hc; done) | (simp only [push_cast] at hc; done) | (simp only [push_cast] at hc; omega) | omega
      refine awp_skip ?_
      (try simp only [AThen, ABlk, reduceIte, zF]); refine hK4 _ ?_
      refine awp_region tyOk tyPos [] rfl ?_
      all_goals simp only [push_cast, ↓brB_true, ↓brB_false, ↓reduceIte, zA, zB, zC, zD, zE, zF, zG, zH, zI, reduceCtorEq]
      all_goals repeat' (first | (apply brB_mk <;> (intro hg; (try simp only [push_cast] at hg))) | apply And.intro | (intro hg; (try simp only [push_cast] at hg)))
      all_goals first | exact gA | (exact getE_dPls (by omega)) | skip
      refine hL0 _ ⟨k + 1, by omega, by omega, ?_⟩
      refine cov_of rfl ?_ ?_ ?_ <;> simp only [covS, covL, push_cast, ↓brB_true, ↓brB_false, ↓reduceIte, zA, zB, zC, zD, zE, zF, zG, zH, zI, reduceCtorEq]
    ·
      refine awp_exit ?_
      (try simp only [AThen, ABlk, reduceIte, zF]); refine hK2 _ ?_
      refine awp_seq' fun K hK => ?_
      refine awp_region tyOk tyPos [] rfl ?_
      all_goals simp only [push_cast, ↓brB_true, ↓brB_false, ↓reduceIte, zA, zB, zC, zD, zE, zF, zG, zH, zI, reduceCtorEq]
      all_goals repeat' (first | (apply brB_mk <;> (intro hg; (try simp only [push_cast] at hg))) | apply And.intro | (intro hg; (try simp only [push_cast] at hg)))
      all_goals first | exact gA | (exact getE_dPls (by omega)) | skip
      all_goals first | (refine hK _ ?_; clear hK K) | (simp only [push_cast]; done)
      refine awp_ret ?_
      (try simp only [AThen, ABlk])
      refine ⟨Or.inl rfl, ?_⟩
      simp only [RetOk, push_cast, ↓brB_true, ↓brB_false, ↓reduceIte, zA, zB, zC, zD, zE, zF, zG, zH, zI, reduceCtorEq]
set_option maxRecDepth 20000 in
set_option maxHeartbeats 4000000 in
theorem markQS_fn (ps : List Plc) (k : Int) (h0 : 0 ≤ k) (h1 : k + cQ ps ≤ 4611686018427387904) (h2 : ps.length ≤ 1048576) : FnG Try.prog tyT 19 [.c (.lst 78 (dPls ps)), .c (.int .i64 k)] [0] [(0, 78, dPls (mkQ k ps))] [.c (.int .i64 (k + cQ ps))] := by
  have hM := fun r (m : Int) g0 g1 => markInt64S_fn r m g0 g1
  refine FnG_of (fn := Try.f19) (rs := [.tmp 4]) (own := [0]) (outs := [(0, 78, dPls (mkQ k ps))]) tyOk tyPos Try.func19 (by kernel_rfl) rfl rfl (by rw [Try.ntmps19]; exact Nat.le_of_ble_eq_true rfl) rfl (by simp only [szA, List.mem_cons, List.not_mem_nil, or_false, forall_eq_or_imp, forall_eq, VT.cells, szL]; try decide) ?_
  rw [Try.ntmps19]
  simp only [push_cast, ↓brB_true, ↓brB_false, ↓reduceIte, zA, zB, zC, zD, zE, zF, zG, zH, zI, reduceCtorEq]
  refine awp_seq' fun K hK => ?_
  refine awp_region tyOk tyPos [] rfl ?_
  all_goals simp only [push_cast, ↓brB_true, ↓brB_false, ↓reduceIte, zA, zB, zC, zD, zE, zF, zG, zH, zI, reduceCtorEq]
  all_goals repeat' (first | (apply brB_mk <;> (intro hg; (try simp only [push_cast] at hg))) | apply And.intro | (intro hg; (try simp only [push_cast] at hg)))
  all_goals first | exact gA | (exact getE_dPls (by omega)) | skip
  all_goals first | (refine hK _ ?_; clear hK K) | (simp only [push_cast]; done)
  refine awp_seq' fun K1 hK1 => ?_
  refine awp_seq' fun K hK => ?_
  refine awp_region tyOk tyPos [] rfl ?_
  all_goals simp only [push_cast, ↓brB_true, ↓brB_false, ↓reduceIte, zA, zB, zC, zD, zE, zF, zG, zH, zI, reduceCtorEq]
  all_goals repeat' (first | (apply brB_mk <;> (intro hg; (try simp only [push_cast] at hg))) | apply And.intro | (intro hg; (try simp only [push_cast] at hg)))
  all_goals first | exact gA | (exact getE_dPls (by omega)) | skip
  all_goals first | (refine hK _ ?_; clear hK K) | (simp only [push_cast]; done)
  refine awp_block ?_
  refine awp_loopU [1,5,6,7,8,9,10,11,12,13,14,15,16,17,18,19,20,21,22,23,24,25] [0] (fun (j : Nat) => [(5, .int .i64 j), (1, .int .i64 (k + cQ (ps.take j)))]) (fun j => []) (fun j => [(0, ⟨.ex, 78, dPls (mq k ps j), some 0⟩)]) (fun j => j ≤ ps.length) (fun j => ps.length - j) 0 ?_ (by omega) ?_
  ·
    rw [mq_0, List.take_zero, show ((cQ [] : Nat) : Int) = 0 from rfl, Int.add_zero]
    refine cov_of rfl ?_ ?_ ?_ <;> simp only [covS, covL, push_cast, ↓brB_true, ↓brB_false, ↓reduceIte, zA, zB, zC, zD, zE, zF, zG, zH, zI, reduceCtorEq]
  · rintro j hj KL0 hL0
    have hl := mq_len (k := k) hj
    have hs := cQ_take_le ps j
    have hs1 := cQ_take_le ps (j + 1)
    simp only [push_cast, ↓brB_true, ↓brB_false, ↓reduceIte, zA, zB, zC, zD, zE, zF, zG, zH, zI, reduceCtorEq]
    refine awp_seq' fun K2 hK2 => ?_
    refine awp_seq' fun K hK => ?_
    refine awp_region tyOk tyPos [] rfl ?_
    all_goals simp only [push_cast, ↓brB_true, ↓brB_false, ↓reduceIte, zA, zB, zC, zD, zE, zF, zG, zH, zI, reduceCtorEq]
    all_goals repeat' (first | (apply brB_mk <;> (intro hg; (try simp only [push_cast] at hg))) | apply And.intro | (intro hg; (try simp only [push_cast] at hg)))
    all_goals first | exact gA | (exact getE_dPls (by omega)) | skip
    all_goals first | (refine hK _ ?_; clear hK K) | (simp only [push_cast]; done)
    refine awp_cond rfl (fun hc => ?_) (fun hc => ?_) <;> (try simp only [push_cast] at hc)
    ·
      refine awp_skip ?_
      (try simp only [AThen, ABlk, reduceIte, zF]); refine hK2 _ ?_
      refine awp_seq' fun K3 hK3 => ?_
      refine awp_block ?_
      have hst := cQ_take (ps := ps) (k := j) (by omega)
      have hM0 := hM (gq ps j).record (k + cQ (ps.take j) + 1) (by omega) (by omega)
      refine awp_seq' fun K hK => ?_
      refine awp_region tyOk tyPos [] rfl ?_
      all_goals simp only [push_cast, ↓brB_true, ↓brB_false, ↓reduceIte, zA, zB, zC, zD, zE, zF, zG, zH, zI, reduceCtorEq]
      all_goals repeat' (first | (apply brB_mk <;> (intro hg; (try simp only [push_cast] at hg))) | apply And.intro | (intro hg; (try simp only [push_cast] at hg)))
      all_goals first | exact gA | (exact getE_dPls (by omega)) | skip
      all_goals first | (refine hK _ ?_; clear hK K) | (simp only [push_cast]; done)
      refine awp_seq' fun K hK => ?_
      refine awp_region tyOk tyPos [] rfl ?_
      all_goals simp only [push_cast, ↓brB_true, ↓brB_false, ↓reduceIte, zA, zB, zC, zD, zE, zF, zG, zH, zI, reduceCtorEq]
      all_goals repeat' (first | (apply brB_mk <;> (intro hg; (try simp only [push_cast] at hg))) | apply And.intro | (intro hg; (try simp only [push_cast] at hg)))
      all_goals first | exact gA | (exact getE_dPls (by omega)) | skip
      all_goals first | (refine hK _ ?_; clear hK K) | (simp only [push_cast]; done)
      have hmq := mq_at (k := k) (ps := ps) (j := j) (by omega)
      rw [hmq]
      have hql : ((mq k ps j).set j ⟨k + cQ (ps.take j), (gq ps j).record⟩).length = ps.length := by rw [List.length_set]; exact hl
      have hqg := gq_set (ps := mq k ps j) (j := j) (p := ⟨k + cQ (ps.take j), (gq ps j).record⟩) (by omega)
      generalize hqs : (mq k ps j).set j ⟨k + cQ (ps.take j), (gq ps j).record⟩ = qs at hql hqg ⊢
      rw [show DI (gq ps j).record = DI (gq qs j).record from by rw [hqg]] at hM0
      refine awp_regionG 25 [0] [(0, 2, dI (iot (k + cQ (ps.take j) + 1) (gq ps j).record.length))] tyOk tyPos [] rfl ?_
      simp only [push_cast, ↓brB_true, ↓brB_false, ↓reduceIte, zA, zB, zC, zD, zE, zF, zG, zH, zI, reduceCtorEq]
      all_goals repeat' (first | (apply brB_mk <;> (intro hg; (try simp only [push_cast] at hg))) | (refine ⟨_, hM0, ?_⟩; simp only [push_cast, ↓brB_true, ↓brB_false, ↓reduceIte, zA, zB, zC, zD, zE, zF, zG, zH, zI, reduceCtorEq]) | apply And.intro | (intro hg; (try simp only [push_cast] at hg)))
      all_goals first | exact gA | (exact getE_dPls (by omega)) | skip
      (try simp only [AThen, ABlk, reduceIte, zF]); refine hK3 _ ?_
      refine awp_region tyOk tyPos [] rfl ?_
      all_goals simp only [push_cast, ↓brB_true, ↓brB_false, ↓reduceIte, zA, zB, zC, zD, zE, zF, zG, zH, zI, reduceCtorEq]
      all_goals repeat' (first | (apply brB_mk <;> (intro hg; (try simp only [push_cast] at hg))) | apply And.intro | (intro hg; (try simp only [push_cast] at hg)))
      all_goals first | exact gA | (exact getE_dPls (by omega)) | skip
      refine hL0 _ ⟨j + 1, by omega, by omega, ?_⟩
      rw [hqg]
      subst hqs
      rw [List.set_set, mq_set (by omega)]
      refine cov_of rfl ?_ ?_ ?_ <;> simp only [covS, covL, push_cast, ↓brB_true, ↓brB_false, ↓reduceIte, zA, zB, zC, zD, zE, zF, zG, zH, zI, reduceCtorEq]
      all_goals (try (refine congrArg (AV.int .i64) ?_; omega))
    ·
      refine awp_exit ?_
      have hjj : j = ps.length := by omega
      subst hjj
      rw [mq_all, List.take_length]
      (try simp only [AThen, ABlk, reduceIte, zF]); refine hK1 _ ?_
      refine awp_seq' fun K hK => ?_
      refine awp_region tyOk tyPos [] rfl ?_
      all_goals simp only [push_cast, ↓brB_true, ↓brB_false, ↓reduceIte, zA, zB, zC, zD, zE, zF, zG, zH, zI, reduceCtorEq]
      all_goals repeat' (first | (apply brB_mk <;> (intro hg; (try simp only [push_cast] at hg))) | apply And.intro | (intro hg; (try simp only [push_cast] at hg)))
      all_goals first | exact gA | (exact getE_dPls (by omega)) | skip
      all_goals first | (refine hK _ ?_; clear hK K) | (simp only [push_cast]; done)
      refine awp_ret ?_
      (try simp only [AThen, ABlk])
      refine ⟨Or.inl rfl, ?_⟩
      simp only [RetOkG, outsOk, resVars, resVar, push_cast, ↓brB_true, ↓brB_false, ↓reduceIte, zA, zB, zC, zD, zE, zF, zG, zH, zI, reduceCtorEq]
set_option maxRecDepth 20000 in
set_option maxHeartbeats 4000000 in
theorem heldQS_fn (ps : List Plc) (k : Int) (h0 : 0 ≤ k) (h1 : k + cQ ps ≤ 4611686018427387904) (h2 : ps.length ≤ 1048576) : Fn Try.prog tyT 20 [.c (.lst 78 (dPls (mkQ k ps))), .c (.int .i64 k)] [.c (.int .i64 (k + cQ ps))] := by
  have hn := mkQ_len k ps
  have hM := fun n (m : Int) g0 g1 => heldInt64S_fn n m g0 g1
  refine Fn_of (fn := Try.f20) (ts := [4]) Try.func20 (by kernel_rfl) rfl rfl (by rw [Try.ntmps20]; exact Nat.le_of_ble_eq_true rfl) rfl (by simp only [szA, List.mem_cons, List.not_mem_nil, or_false, forall_eq_or_imp, forall_eq, VT.cells, szL]; try decide) ?_
  rw [Try.ntmps20]
  simp only [push_cast, ↓brB_true, ↓brB_false, ↓reduceIte, zA, zB, zC, zD, zE, zF, zG, zH, zI, reduceCtorEq]
  refine awp_seq' fun K hK => ?_
  refine awp_region tyOk tyPos [] rfl ?_
  all_goals simp only [push_cast, ↓brB_true, ↓brB_false, ↓reduceIte, zA, zB, zC, zD, zE, zF, zG, zH, zI, reduceCtorEq]
  all_goals repeat' (first | (apply brB_mk <;> (intro hg; (try simp only [push_cast] at hg))) | apply And.intro | (intro hg; (try simp only [push_cast] at hg)))
  all_goals first | exact gA | (exact getE_dPls (by omega)) | skip
  all_goals first | (refine hK _ ?_; clear hK K) | (simp only [push_cast]; done)
  refine awp_seq' fun K1 hK1 => ?_
  refine awp_seq' fun K hK => ?_
  refine awp_region tyOk tyPos [] rfl ?_
  all_goals simp only [push_cast, ↓brB_true, ↓brB_false, ↓reduceIte, zA, zB, zC, zD, zE, zF, zG, zH, zI, reduceCtorEq]
  all_goals repeat' (first | (apply brB_mk <;> (intro hg; (try simp only [push_cast] at hg))) | apply And.intro | (intro hg; (try simp only [push_cast] at hg)))
  all_goals first | exact gA | (exact getE_dPls (by omega)) | skip
  all_goals first | (refine hK _ ?_; clear hK K) | (simp only [push_cast]; done)
  refine awp_block ?_
  refine awp_loopU [1,4,5,6,7,8,9,10,11,12,13,14,15,16,17,18,19,20,21,22,23,24,25,26,27,28,29] [] (fun (j : Nat) => [(5, .int .i64 j), (1, .int .i64 (k + cQ (ps.take j)))]) (fun j => []) (fun j => []) (fun j => j ≤ ps.length) (fun j => ps.length - j) 0 ?_ (by omega) ?_
  ·
    rw [List.take_zero, show ((cQ [] : Nat) : Int) = 0 from rfl, Int.add_zero]
    refine cov_of rfl ?_ ?_ ?_ <;> simp only [covS, covL, push_cast, ↓brB_true, ↓brB_false, ↓reduceIte, zA, zB, zC, zD, zE, zF, zG, zH, zI, reduceCtorEq]
  · rintro j hj KL0 hL0
    have hs := cQ_take_le ps j
    have hs1 := cQ_take_le ps (j + 1)
    simp only [push_cast, ↓brB_true, ↓brB_false, ↓reduceIte, zA, zB, zC, zD, zE, zF, zG, zH, zI, reduceCtorEq]
    refine awp_seq' fun K2 hK2 => ?_
    refine awp_seq' fun K hK => ?_
    refine awp_region tyOk tyPos [] rfl ?_
    all_goals simp only [push_cast, ↓brB_true, ↓brB_false, ↓reduceIte, zA, zB, zC, zD, zE, zF, zG, zH, zI, reduceCtorEq]
    all_goals repeat' (first | (apply brB_mk <;> (intro hg; (try simp only [push_cast] at hg))) | apply And.intro | (intro hg; (try simp only [push_cast] at hg)))
    all_goals first | exact gA | (exact getE_dPls (by omega)) | skip
    all_goals first | (refine hK _ ?_; clear hK K) | (simp only [push_cast]; done)
    refine awp_cond rfl (fun hc => ?_) (fun hc => ?_) <;> (try simp only [push_cast] at hc)
    ·
      refine awp_skip ?_
      (try simp only [AThen, ABlk, reduceIte, zF]); refine hK2 _ ?_
      refine awp_seq' fun K3 hK3 => ?_
      refine awp_block ?_
      refine awp_seq' fun K4 hK4 => ?_
      have hst := cQ_take (ps := ps) (k := j) (by omega)
      have hM0 := hM (gq ps j).record.length (k + cQ (ps.take j) + 1) (by omega) (by omega)
      have hmk := mkQ_at (k := k) (ps := ps) (j := j) (by omega)
      rw [show DI (iot (k + cQ (ps.take j) + 1) (gq ps j).record.length) = DI (gq (mkQ k ps) j).record from by rw [hmk]] at hM0
      refine awp_seq' fun K hK => ?_
      refine awp_region tyOk tyPos [] rfl ?_
      all_goals simp only [push_cast, ↓brB_true, ↓brB_false, ↓reduceIte, zA, zB, zC, zD, zE, zF, zG, zH, zI, reduceCtorEq]
      all_goals repeat' (first | (apply brB_mk <;> (intro hg; (try simp only [push_cast] at hg))) | apply And.intro | (intro hg; (try simp only [push_cast] at hg)))
      all_goals first | exact gA | (exact getE_dPls (by omega)) | skip
      all_goals first | (refine hK _ ?_; clear hK K) | (simp only [push_cast]; done)
      refine awp_cond rfl (fun hc => ?_) (fun hc => ?_)
      skip
      · exfalso; (rw [mkQ_at (by omega)] at hc; simp at hc)
      refine awp_skip ?_
      (try simp only [AThen, ABlk, reduceIte, zF]); refine hK4 _ ?_
      refine awp_seq' fun K hK => ?_
      refine awp_region tyOk tyPos [] rfl ?_
      all_goals simp only [push_cast, ↓brB_true, ↓brB_false, ↓reduceIte, zA, zB, zC, zD, zE, zF, zG, zH, zI, reduceCtorEq]
      all_goals repeat' (first | (apply brB_mk <;> (intro hg; (try simp only [push_cast] at hg))) | apply And.intro | (intro hg; (try simp only [push_cast] at hg)))
      all_goals first | exact gA | (exact getE_dPls (by omega)) | skip
      all_goals first | (refine hK _ ?_; clear hK K) | (simp only [push_cast]; done)
      refine awp_seq' fun K hK => ?_
      refine awp_region tyOk tyPos [] rfl ?_
      all_goals refine aops_cut 7 fun K9 hK9 => ?_
      all_goals simp only [push_cast, ↓brB_true, ↓brB_false, ↓reduceIte, zA, zB, zC, zD, zE, zF, zG, zH, zI, reduceCtorEq]
      all_goals repeat' (first | (apply brB_mk <;> (intro hg; (try simp only [push_cast] at hg))) | (refine ⟨_, hM0, ?_⟩; simp only [push_cast, ↓brB_true, ↓brB_false, ↓reduceIte, zA, zB, zC, zD, zE, zF, zG, zH, zI, reduceCtorEq]) | apply And.intro | (intro hg; (try simp only [push_cast] at hg)))
      all_goals first | exact gA | (exact getE_dPls (by omega)) | skip
      all_goals first | (refine hK9 _ ?_; clear hK9 K9) | (simp only [push_cast]; done)
      all_goals simp only [push_cast, ↓brB_true, ↓brB_false, ↓reduceIte, zA, zB, zC, zD, zE, zF, zG, zH, zI, reduceCtorEq]
      all_goals repeat' (first | (apply brB_mk <;> (intro hg; (try simp only [push_cast] at hg))) | (refine ⟨_, hM0, ?_⟩; simp only [push_cast, ↓brB_true, ↓brB_false, ↓reduceIte, zA, zB, zC, zD, zE, zF, zG, zH, zI, reduceCtorEq]) | apply And.intro | (intro hg; (try simp only [push_cast] at hg)))
      all_goals first | exact gA | (exact getE_dPls (by omega)) | skip
      all_goals first | (refine hK _ ?_; clear hK K) | (simp only [push_cast]; done)
      refine awp_seq' fun K hK => ?_
      refine awp_region tyOk tyPos [] rfl ?_
      all_goals simp only [push_cast, ↓brB_true, ↓brB_false, ↓reduceIte, zA, zB, zC, zD, zE, zF, zG, zH, zI, reduceCtorEq]
      all_goals repeat' (first | (apply brB_mk <;> (intro hg; (try simp only [push_cast] at hg))) | apply And.intro | (intro hg; (try simp only [push_cast] at hg)))
      all_goals first | exact gA | (exact getE_dPls (by omega)) | skip
      all_goals first | (refine hK _ ?_; clear hK K) | (simp only [push_cast]; done)
      refine awp_cond rfl (fun hc => ?_) (fun hc => ?_)
      skip
      · exfalso; (simp at hc; omega)
      refine awp_skip ?_
      (try simp only [AThen, ABlk, reduceIte, zF]); refine hK3 _ ?_
      refine awp_region tyOk tyPos [] rfl ?_
      all_goals simp only [push_cast, ↓brB_true, ↓brB_false, ↓reduceIte, zA, zB, zC, zD, zE, zF, zG, zH, zI, reduceCtorEq]
      all_goals repeat' (first | (apply brB_mk <;> (intro hg; (try simp only [push_cast] at hg))) | apply And.intro | (intro hg; (try simp only [push_cast] at hg)))
      all_goals first | exact gA | (exact getE_dPls (by omega)) | skip
      refine hL0 _ ⟨j + 1, by omega, by omega, ?_⟩
      refine cov_of rfl ?_ ?_ ?_ <;> simp only [covS, covL, push_cast, ↓brB_true, ↓brB_false, ↓reduceIte, zA, zB, zC, zD, zE, zF, zG, zH, zI, reduceCtorEq]
      all_goals (try (refine congrArg (AV.int .i64) ?_; omega))
    ·
      refine awp_exit ?_
      have hjj : j = ps.length := by omega
      subst hjj
      rw [List.take_length]
      (try simp only [AThen, ABlk, reduceIte, zF]); refine hK1 _ ?_
      refine awp_seq' fun K hK => ?_
      refine awp_region tyOk tyPos [] rfl ?_
      all_goals simp only [push_cast, ↓brB_true, ↓brB_false, ↓reduceIte, zA, zB, zC, zD, zE, zF, zG, zH, zI, reduceCtorEq]
      all_goals repeat' (first | (apply brB_mk <;> (intro hg; (try simp only [push_cast] at hg))) | apply And.intro | (intro hg; (try simp only [push_cast] at hg)))
      all_goals first | exact gA | (exact getE_dPls (by omega)) | skip
      all_goals first | (refine hK _ ?_; clear hK K) | (simp only [push_cast]; done)
      refine awp_ret ?_
      (try simp only [AThen, ABlk])
      refine ⟨Or.inl rfl, ?_⟩
      simp only [RetOk, push_cast, ↓brB_true, ↓brB_false, ↓reduceIte, zA, zB, zC, zD, zE, zF, zG, zH, zI, reduceCtorEq]
end Go.Proofs.Ytklconkoamoabaa

namespace Go.Proofs.Ytklconkoamoabaa
open Nat renaming reduceMod → zA, reduceMul → zB, reduceDiv → zC, reduceAdd → zD, reduceSub → zE, reduceEqDiff → zF, reduceBEq → zG, reduceLT → zH, reduceLeDiff → zI
open Go.RowKit
set_option linter.unusedVariables false
set_option linter.unusedSimpArgs false

theorem min_1_64 : min 1 64 = 1 := rfl
theorem pow_1 : (2 : Int) ^ 1 = 2 := rfl
attribute [push_cast] min_1_64 pow_1
theorem tk_snocI {xs : List Int} {k : Nat} (h : k < xs.length) : xs.take (k + 1) = xs.take k ++ [gi xs k] := by rw [List.take_add_one, gi_lt h]; rfl
theorem gi_mem {xs : List Int} {k : Nat} (h : k < xs.length) : gi xs k ∈ xs := List.mem_of_getElem? (gi_lt h)
theorem gi_ext {xs ys : List Int} (hl : xs.length = ys.length) (h : ∀ k, k < xs.length → gi xs k = gi ys k) : xs = ys := by
  refine List.ext_getElem? fun k => ?_
  rcases Nat.lt_or_ge k xs.length with hk | hk
  · rw [gi_lt hk, gi_lt (xs := ys) (by omega), h k hk]
  · rw [List.getElem?_eq_none hk, List.getElem?_eq_none (by omega)]
set_option maxRecDepth 20000 in
set_option maxHeartbeats 4000000 in
theorem Equal_fn (s t : List Int) (h1 : s.length ≤ 1048576) (h2 : t.length ≤ 1048576) : Fn Try.prog tyT 121 [.c (DI s), .c (DI t)] [.c (.bool (decide (s = t)))] := by
  refine Fn_of (fn := Try.f121) (ts := [4]) Try.func121 (by kernel_rfl) rfl rfl (by rw [Try.ntmps121]; exact Nat.le_of_ble_eq_true rfl) rfl (by simp only [szA, List.mem_cons, List.not_mem_nil, or_false, forall_eq_or_imp, forall_eq, VT.cells, szL]; try decide) ?_
  rw [Try.ntmps121]
  simp only [push_cast, ↓brB_true, ↓brB_false, ↓reduceIte, zA, zB, zC, zD, zE, zF, zG, zH, zI, reduceCtorEq]
  refine awp_seq' fun K hK => ?_
  refine awp_region tyOk tyPos [] rfl ?_
  simp only [push_cast, ↓brB_true, ↓brB_false, ↓reduceIte, zA, zB, zC, zD, zE, zF, zG, zH, zI, reduceCtorEq]
  repeat' apply And.intro
  all_goals try exact gB
  all_goals first | (refine hK _ ?_; clear hK K) | (simp only [push_cast]; done)
  refine awp_seq' fun K1 hK1 => ?_
  refine awp_seq' fun K hK => ?_
  refine awp_region tyOk tyPos [] rfl ?_
  simp only [push_cast, ↓brB_true, ↓brB_false, ↓reduceIte, zA, zB, zC, zD, zE, zF, zG, zH, zI, reduceCtorEq]
  repeat' apply And.intro
  all_goals try exact gB
  all_goals first | (refine hK _ ?_; clear hK K) | (simp only [push_cast]; done)
  refine awp_cond rfl (fun hc => ?_) (fun hc => ?_) <;> (try simp only [push_cast] at hc)
  ·
    refine awp_seq' fun K hK => ?_
    refine awp_region tyOk tyPos [] rfl ?_
    simp only [push_cast, ↓brB_true, ↓brB_false, ↓reduceIte, zA, zB, zC, zD, zE, zF, zG, zH, zI, reduceCtorEq]
    repeat' apply And.intro
    all_goals try exact gB
    all_goals first | (refine hK _ ?_; clear hK K) | (simp only [push_cast]; done)
    refine awp_ret ?_
    (try simp only [AThen, ABlk])
    refine ⟨Or.inl rfl, ?_⟩
    simp only [RetOk, push_cast, ↓brB_true, ↓brB_false, ↓reduceIte, zA, zB, zC, zD, zE, zF, zG, zH, zI, reduceCtorEq]
    exact (decide_eq_false (fun e => by subst e; omega)).symm
  ·
    refine awp_skip ?_
    (try simp only [AThen, ABlk, reduceIte, zF]); refine hK1 _ ?_
    refine awp_seq' fun K2 hK2 => ?_
    refine awp_seq' fun K hK => ?_
    refine awp_region tyOk tyPos [] rfl ?_
    simp only [push_cast, ↓brB_true, ↓brB_false, ↓reduceIte, zA, zB, zC, zD, zE, zF, zG, zH, zI, reduceCtorEq]
    repeat' apply And.intro
    all_goals try exact gB
    all_goals first | (refine hK _ ?_; clear hK K) | (simp only [push_cast]; done)
    refine awp_block ?_
    refine awp_loopU [4,5,13,14,15,16,17,18,19,20,21,22,23,24,25] [] (fun (k : Nat) => [(13, .int .i64 k)]) (fun k => []) (fun k => []) (fun k => k ≤ s.length ∧ ∀ j, j < k → gi s j = gi t j) (fun k => s.length - k) 0 ?_ ⟨by omega, fun j hj => by omega⟩ ?_
    ·
      refine cov_of rfl ?_ ?_ ?_ <;> simp only [covS, covL, push_cast, ↓brB_true, ↓brB_false, ↓reduceIte, zA, zB, zC, zD, zE, zF, zG, zH, zI, reduceCtorEq]
    · rintro k ⟨hk, hall⟩ KL0 hL0
      simp only [push_cast, ↓brB_true, ↓brB_false, ↓reduceIte, zA, zB, zC, zD, zE, zF, zG, zH, zI, reduceCtorEq]
      refine awp_seq' fun K hK => ?_
      refine awp_region tyOk tyPos [] rfl ?_
      simp only [push_cast, ↓brB_true, ↓brB_false, ↓reduceIte, zA, zB, zC, zD, zE, zF, zG, zH, zI, reduceCtorEq]
      repeat' apply And.intro
      all_goals try exact gB
      all_goals first | (refine hK _ ?_; clear hK K) | (simp only [push_cast]; done)
      refine awp_seq' fun K3 hK3 => ?_
      refine awp_cond rfl (fun hc => ?_) (fun hc => ?_) <;> (try simp only [push_cast] at hc)
      ·
        refine awp_skip ?_
        (try simp only [AThen, ABlk, reduceIte, zF]); refine hK3 _ ?_
        refine awp_seq' fun K4 hK4 => ?_
        refine awp_block ?_
        refine awp_seq' fun K hK => ?_
        refine awp_region tyOk tyPos [] rfl ?_
        simp only [push_cast, ↓brB_true, ↓brB_false, ↓reduceIte, zA, zB, zC, zD, zE, zF, zG, zH, zI, reduceCtorEq]
        repeat' apply And.intro
        all_goals try exact gB
        all_goals first | (refine hK _ ?_; clear hK K) | (simp only [push_cast]; done)
        refine awp_seq' fun K hK => ?_
        refine awp_regionD0 false tyOk tyPos tyMix ?_ rfl ?_
        · kernel_rfl
        intro C hC
        simp only [push_cast, ↓brB_true, ↓brB_false, ↓reduceIte, zA, zB, zC, zD, zE, zF, zG, zH, zI, reduceCtorEq]
        repeat' apply And.intro
        all_goals first | omega | with_reducible assumption | (refine hC _ ?_; kernel_rfl) | (simp only [List.length_set, List.length_append, List.length_replicate, List.length_cons, List.length_nil]; omega) | skip
        all_goals first | (refine hK _ ?_; clear hC C hK K) | (simp only [push_cast]; done)
        refine awp_cond rfl (fun hc => ?_) (fun hc => ?_) <;> (try simp only [push_cast] at hc)
        ·
          refine awp_seq' fun K hK => ?_
          refine awp_region tyOk tyPos [] rfl ?_
          simp only [push_cast, ↓brB_true, ↓brB_false, ↓reduceIte, zA, zB, zC, zD, zE, zF, zG, zH, zI, reduceCtorEq]
          repeat' apply And.intro
          all_goals try exact gB
          all_goals first | (refine hK _ ?_; clear hK K) | (simp only [push_cast]; done)
          refine awp_ret ?_
          (try simp only [AThen, ABlk])
          refine ⟨Or.inl rfl, ?_⟩
          simp only [RetOk, push_cast, ↓brB_true, ↓brB_false, ↓reduceIte, zA, zB, zC, zD, zE, zF, zG, zH, zI, reduceCtorEq]
          exact (decide_eq_false (fun e => by subst e; omega)).symm
        ·
          refine awp_skip ?_
          (try simp only [AThen, ABlk, reduceIte, zF]); refine hK4 _ ?_
          refine awp_region tyOk tyPos [] rfl ?_
          simp only [push_cast, ↓brB_true, ↓brB_false, ↓reduceIte, zA, zB, zC, zD, zE, zF, zG, zH, zI, reduceCtorEq]
          repeat' apply And.intro
          all_goals try exact gB
          refine hL0 _ ⟨k + 1, ⟨by omega, fun j hj => (by
              by_cases hjk : j = k
              · subst hjk; omega
              · exact hall j (by omega))⟩, by omega, ?_⟩
          refine cov_of rfl ?_ ?_ ?_ <;> simp only [covS, covL, push_cast, ↓brB_true, ↓brB_false, ↓reduceIte, zA, zB, zC, zD, zE, zF, zG, zH, zI, reduceCtorEq]
      ·
        refine awp_exit ?_
        (try simp only [AThen, ABlk, reduceIte, zF]); refine hK2 _ ?_
        refine awp_seq' fun K hK => ?_
        refine awp_region tyOk tyPos [] rfl ?_
        simp only [push_cast, ↓brB_true, ↓brB_false, ↓reduceIte, zA, zB, zC, zD, zE, zF, zG, zH, zI, reduceCtorEq]
        repeat' apply And.intro
        all_goals try exact gB
        all_goals first | (refine hK _ ?_; clear hK K) | (simp only [push_cast]; done)
        refine awp_ret ?_
        (try simp only [AThen, ABlk])
        refine ⟨Or.inl rfl, ?_⟩
        simp only [RetOk, push_cast, ↓brB_true, ↓brB_false, ↓reduceIte, zA, zB, zC, zD, zE, zF, zG, zH, zI, reduceCtorEq]
        exact (decide_eq_true (gi_ext (by omega) fun j hj => hall j (by omega))).symm
set_option maxRecDepth 20000 in
set_option maxHeartbeats 4000000 in
theorem l16SameInts_fn (s t : List Int) (h1 : s.length ≤ 1048576) (h2 : t.length ≤ 1048576) : Fn Try.prog tyT 95 [.c (DI s), .c (DI t)] [.c (.bool (decide (s = t)))] := by
  refine Fn_of (fn := Try.f95) (ts := [4]) Try.func95 (by kernel_rfl) rfl rfl (by rw [Try.ntmps95]; exact Nat.le_of_ble_eq_true rfl) rfl (by simp only [szA, List.mem_cons, List.not_mem_nil, or_false, forall_eq_or_imp, forall_eq, VT.cells, szL]; try decide) ?_
  rw [Try.ntmps95]
  simp only [push_cast, ↓brB_true, ↓brB_false, ↓reduceIte, zA, zB, zC, zD, zE, zF, zG, zH, zI, reduceCtorEq]
  refine awp_seq' fun K hK => ?_
  refine awp_region tyOk tyPos [] rfl ?_
  simp only [push_cast, ↓brB_true, ↓brB_false, ↓reduceIte, zA, zB, zC, zD, zE, zF, zG, zH, zI, reduceCtorEq]
  repeat' apply And.intro
  all_goals try exact gB
  all_goals first | (refine hK _ ?_; clear hK K) | (simp only [push_cast]; done)
  refine awp_seq' fun K1 hK1 => ?_
  refine awp_seq' fun K hK => ?_
  refine awp_region tyOk tyPos [] rfl ?_
  simp only [push_cast, ↓brB_true, ↓brB_false, ↓reduceIte, zA, zB, zC, zD, zE, zF, zG, zH, zI, reduceCtorEq]
  repeat' apply And.intro
  all_goals try exact gB
  all_goals first | (refine hK _ ?_; clear hK K) | (simp only [push_cast]; done)
  refine awp_cond rfl (fun hc => ?_) (fun hc => ?_) <;> (try simp only [push_cast] at hc)
  ·
    refine awp_seq' fun K hK => ?_
    refine awp_region tyOk tyPos [] rfl ?_
    simp only [push_cast, ↓brB_true, ↓brB_false, ↓reduceIte, zA, zB, zC, zD, zE, zF, zG, zH, zI, reduceCtorEq]
    repeat' apply And.intro
    all_goals try exact gB
    all_goals first | (refine hK _ ?_; clear hK K) | (simp only [push_cast]; done)
    refine awp_ret ?_
    (try simp only [AThen, ABlk])
    refine ⟨Or.inl rfl, ?_⟩
    simp only [RetOk, push_cast, ↓brB_true, ↓brB_false, ↓reduceIte, zA, zB, zC, zD, zE, zF, zG, zH, zI, reduceCtorEq]
    exact (decide_eq_false (fun e => by subst e; omega)).symm
  ·
    refine awp_skip ?_
    (try simp only [AThen, ABlk, reduceIte, zF]); refine hK1 _ ?_
    refine awp_seq' fun K2 hK2 => ?_
    refine awp_seq' fun K hK => ?_
    refine awp_region tyOk tyPos [] rfl ?_
    simp only [push_cast, ↓brB_true, ↓brB_false, ↓reduceIte, zA, zB, zC, zD, zE, zF, zG, zH, zI, reduceCtorEq]
    repeat' apply And.intro
    all_goals try exact gB
    all_goals first | (refine hK _ ?_; clear hK K) | (simp only [push_cast]; done)
    refine awp_block ?_
    refine awp_loopU [4,5,11,12,13,14,15,16,17,18,19,20,21,22,23,24,25] [] (fun (k : Nat) => [(5, .int .i64 k)]) (fun k => []) (fun k => []) (fun k => k ≤ s.length ∧ ∀ j, j < k → gi s j = gi t j) (fun k => s.length - k) 0 ?_ ⟨by omega, fun j hj => by omega⟩ ?_
    ·
      refine cov_of rfl ?_ ?_ ?_ <;> simp only [covS, covL, push_cast, ↓brB_true, ↓brB_false, ↓reduceIte, zA, zB, zC, zD, zE, zF, zG, zH, zI, reduceCtorEq]
    · rintro k ⟨hk, hall⟩ KL0 hL0
      simp only [push_cast, ↓brB_true, ↓brB_false, ↓reduceIte, zA, zB, zC, zD, zE, zF, zG, zH, zI, reduceCtorEq]
      refine awp_seq' fun K3 hK3 => ?_
      refine awp_seq' fun K hK => ?_
      refine awp_region tyOk tyPos [] rfl ?_
      simp only [push_cast, ↓brB_true, ↓brB_false, ↓reduceIte, zA, zB, zC, zD, zE, zF, zG, zH, zI, reduceCtorEq]
      repeat' apply And.intro
      all_goals try exact gB
      all_goals first | (refine hK _ ?_; clear hK K) | (simp only [push_cast]; done)
      refine awp_cond rfl (fun hc => ?_) (fun hc => ?_) <;> (try simp only [push_cast] at hc)
      ·
        refine awp_skip ?_
        (try simp only [AThen, ABlk, reduceIte, zF]); refine hK3 _ ?_
        refine awp_seq' fun K4 hK4 => ?_
        refine awp_block ?_
        refine awp_seq' fun K hK => ?_
        refine awp_regionD0 false tyOk tyPos tyMix ?_ rfl ?_
        · kernel_rfl
        intro C hC
        simp only [push_cast, ↓brB_true, ↓brB_false, ↓reduceIte, zA, zB, zC, zD, zE, zF, zG, zH, zI, reduceCtorEq]
        repeat' apply And.intro
        all_goals first | omega | with_reducible assumption | (refine hC _ ?_; kernel_rfl) | (simp only [List.length_set, List.length_append, List.length_replicate, List.length_cons, List.length_nil]; omega) | skip
        all_goals first | (refine hK _ ?_; clear hC C hK K) | (simp only [push_cast]; done)
        refine awp_cond rfl (fun hc => ?_) (fun hc => ?_) <;> (try simp only [push_cast] at hc)
        ·
          refine awp_seq' fun K hK => ?_
          refine awp_region tyOk tyPos [] rfl ?_
          simp only [push_cast, ↓brB_true, ↓brB_false, ↓reduceIte, zA, zB, zC, zD, zE, zF, zG, zH, zI, reduceCtorEq]
          repeat' apply And.intro
          all_goals try exact gB
          all_goals first | (refine hK _ ?_; clear hK K) | (simp only [push_cast]; done)
          refine awp_ret ?_
          (try simp only [AThen, ABlk])
          refine ⟨Or.inl rfl, ?_⟩
          simp only [RetOk, push_cast, ↓brB_true, ↓brB_false, ↓reduceIte, zA, zB, zC, zD, zE, zF, zG, zH, zI, reduceCtorEq]
          exact (decide_eq_false (fun e => by subst e; omega)).symm
        ·
          refine awp_skip ?_
          (try simp only [AThen, ABlk, reduceIte, zF]); refine hK4 _ ?_
          refine awp_region tyOk tyPos [] rfl ?_
          simp only [push_cast, ↓brB_true, ↓brB_false, ↓reduceIte, zA, zB, zC, zD, zE, zF, zG, zH, zI, reduceCtorEq]
          repeat' apply And.intro
          all_goals try exact gB
          refine hL0 _ ⟨k + 1, ⟨by omega, fun j hj => (by
              by_cases hjk : j = k
              · subst hjk; omega
              · exact hall j (by omega))⟩, by omega, ?_⟩
          refine cov_of rfl ?_ ?_ ?_ <;> simp only [covS, covL, push_cast, ↓brB_true, ↓brB_false, ↓reduceIte, zA, zB, zC, zD, zE, zF, zG, zH, zI, reduceCtorEq]
      ·
        refine awp_exit ?_
        (try simp only [AThen, ABlk, reduceIte, zF]); refine hK2 _ ?_
        refine awp_seq' fun K hK => ?_
        refine awp_region tyOk tyPos [] rfl ?_
        simp only [push_cast, ↓brB_true, ↓brB_false, ↓reduceIte, zA, zB, zC, zD, zE, zF, zG, zH, zI, reduceCtorEq]
        repeat' apply And.intro
        all_goals try exact gB
        all_goals first | (refine hK _ ?_; clear hK K) | (simp only [push_cast]; done)
        refine awp_ret ?_
        (try simp only [AThen, ABlk])
        refine ⟨Or.inl rfl, ?_⟩
        simp only [RetOk, push_cast, ↓brB_true, ↓brB_false, ↓reduceIte, zA, zB, zC, zD, zE, zF, zG, zH, zI, reduceCtorEq]
        exact (decide_eq_true (gi_ext (by omega) fun j hj => hall j (by omega))).symm
end Go.Proofs.Ytklconkoamoabaa

namespace Go.Proofs.Ytklconkoamoabaa
open Nat renaming reduceMod → zA, reduceMul → zB, reduceDiv → zC, reduceAdd → zD, reduceSub → zE, reduceEqDiff → zF, reduceBEq → zG, reduceLT → zH, reduceLeDiff → zI
open Go.RowKit
set_option linter.unusedVariables false
set_option linter.unusedSimpArgs false

set_option maxRecDepth 20000 in
set_option maxHeartbeats 4000000 in
theorem SetOkS_fn (s : List Int) (hs : s.length ≤ 1048576) (n : Int) (hn : 0 ≤ n ∧ n ≤ 256) : Fn Try.prog tyT 93 [.c (DI s), .c (.int .i64 n)] [.c (.bool (isSetB s n))] := by
  refine Fn_of (fn := Try.f93) (ts := [4]) Try.func93 (by kernel_rfl) rfl rfl (by rw [Try.ntmps93]; exact Nat.le_of_ble_eq_true rfl) rfl (by simp only [szA, List.mem_cons, List.not_mem_nil, or_false, forall_eq_or_imp, forall_eq, VT.cells, szL]; try decide) ?_
  rw [Try.ntmps93]
  simp only [push_cast, ↓brB_true, ↓brB_false, ↓reduceIte, zA, zB, zC, zD, zE, zF, zG, zH, zI, reduceCtorEq]
  refine awp_seq' fun K hK => ?_
  refine awp_region tyOk tyPos [] rfl ?_
  simp only [push_cast, ↓brB_true, ↓brB_false, ↓reduceIte, zA, zB, zC, zD, zE, zF, zG, zH, zI, reduceCtorEq]
  repeat' apply And.intro
  all_goals try exact gB
  all_goals first | (refine hK _ ?_; clear hK K) | (simp only [push_cast]; done)
  refine awp_seq' fun K hK => ?_
  refine awp_regionN false tyOk tyPos ?_ rfl ?_
  · kernel_rfl
  all_goals refine seqE_cut 2 fun K9 hK9 => ?_
  all_goals simp only [push_cast, ↓brB_true, ↓brB_false, ↓reduceIte, zA, zB, zC, zD, zE, zF, zG, zH, zI, reduceCtorEq]
  all_goals repeat' (first | (apply brB_mk <;> (intro hg; (try simp only [push_cast] at hg))) | (refine ⟨_, l1In_fn _ _ _, ?_⟩; simp only [push_cast, ↓brB_true, ↓brB_false, ↓reduceIte, zA, zB, zC, zD, zE, zF, zG, zH, zI, reduceCtorEq]) | (refine ⟨_, l1Set_fn s n hs (by omega) (by omega), ?_⟩; simp only [push_cast, ↓brB_true, ↓brB_false, ↓reduceIte, zA, zB, zC, zD, zE, zF, zG, zH, zI, reduceCtorEq]) | apply And.intro | (intro hg; (try simp only [push_cast] at hg)))
  all_goals try exact gA
  all_goals first | (refine hK9 _ ?_; clear hK9 K9) | (simp only [push_cast]; done)
  all_goals refine seqE_cut 4 fun K9 hK9 => ?_
  all_goals simp only [push_cast, ↓brB_true, ↓brB_false, ↓reduceIte, zA, zB, zC, zD, zE, zF, zG, zH, zI, reduceCtorEq]
  all_goals repeat' (first | (apply brB_mk <;> (intro hg; (try simp only [push_cast] at hg))) | (refine ⟨_, l1In_fn _ _ _, ?_⟩; simp only [push_cast, ↓brB_true, ↓brB_false, ↓reduceIte, zA, zB, zC, zD, zE, zF, zG, zH, zI, reduceCtorEq]) | (refine ⟨_, l1Set_fn s n hs (by omega) (by omega), ?_⟩; simp only [push_cast, ↓brB_true, ↓brB_false, ↓reduceIte, zA, zB, zC, zD, zE, zF, zG, zH, zI, reduceCtorEq]) | apply And.intro | (intro hg; (try simp only [push_cast] at hg)))
  all_goals try exact gA
  all_goals first | (refine hK9 _ ?_; clear hK9 K9) | (simp only [push_cast]; done)
  all_goals simp only [push_cast, ↓brB_true, ↓brB_false, ↓reduceIte, zA, zB, zC, zD, zE, zF, zG, zH, zI, reduceCtorEq]
  all_goals repeat' (first | (apply brB_mk <;> (intro hg; (try simp only [push_cast] at hg))) | (refine ⟨_, l1In_fn _ _ _, ?_⟩; simp only [push_cast, ↓brB_true, ↓brB_false, ↓reduceIte, zA, zB, zC, zD, zE, zF, zG, zH, zI, reduceCtorEq]) | (refine ⟨_, l1Set_fn s n hs (by omega) (by omega), ?_⟩; simp only [push_cast, ↓brB_true, ↓brB_false, ↓reduceIte, zA, zB, zC, zD, zE, zF, zG, zH, zI, reduceCtorEq]) | apply And.intro | (intro hg; (try simp only [push_cast] at hg)))
  all_goals try exact gA
  all_goals first | (refine hK _ ?_; clear hK K) | (simp only [push_cast]; done)
  all_goals (
      refine awp_ret ?_
      (try simp only [AThen, ABlk])
      refine ⟨Or.inl rfl, ?_⟩
      simp only [RetOk, push_cast, ↓brB_true, ↓brB_false, ↓reduceIte, zA, zB, zC, zD, zE, zF, zG, zH, zI, reduceCtorEq]
      all_goals first | rfl | omega | (symm; with_reducible assumption))
set_option maxRecDepth 20000 in
set_option maxHeartbeats 4000000 in
theorem l16Has_fn (xs : List Int) (x : Int) (hl : xs.length ≤ 1048576) : Fn Try.prog tyT 58 [.c (DI xs), .c (.int .i64 x)] [.c (.bool (hasB xs x))] := by
  refine Fn_of (fn := Try.f58) (ts := [4]) Try.func58 (by kernel_rfl) rfl rfl (by rw [Try.ntmps58]; exact Nat.le_of_ble_eq_true rfl) rfl (by simp only [szA, List.mem_cons, List.not_mem_nil, or_false, forall_eq_or_imp, forall_eq, VT.cells, szL]; try decide) ?_
  rw [Try.ntmps58]
  simp only [push_cast, ↓brB_true, ↓brB_false, ↓reduceIte, zA, zB, zC, zD, zE, zF, zG, zH, zI, reduceCtorEq]
  refine awp_seq' fun K hK => ?_
  refine awp_region tyOk tyPos [] rfl ?_
  simp only [push_cast, ↓brB_true, ↓brB_false, ↓reduceIte, zA, zB, zC, zD, zE, zF, zG, zH, zI, reduceCtorEq]
  repeat' apply And.intro
  all_goals try exact gB
  all_goals first | (refine hK _ ?_; clear hK K) | (simp only [push_cast]; done)
  refine awp_seq' fun K1 hK1 => ?_
  refine awp_seq' fun K hK => ?_
  refine awp_region tyOk tyPos [] rfl ?_
  simp only [push_cast, ↓brB_true, ↓brB_false, ↓reduceIte, zA, zB, zC, zD, zE, zF, zG, zH, zI, reduceCtorEq]
  repeat' apply And.intro
  all_goals try exact gB
  all_goals first | (refine hK _ ?_; clear hK K) | (simp only [push_cast]; done)
  refine awp_block ?_
  refine awp_loopU [4,5,6,7,8,9,10,11,12,13,14,15,16,17] [] (fun (k : Nat) => [(5, .int .i64 k)]) (fun k => []) (fun k => []) (fun k => k ≤ xs.length ∧ ∀ j, j < k → ¬ gi xs j = x) (fun k => xs.length - k) 0 ?_ ⟨by omega, fun j hj => by omega⟩ ?_
  ·
    refine cov_of rfl ?_ ?_ ?_ <;> simp only [covS, covL, push_cast, ↓brB_true, ↓brB_false, ↓reduceIte, zA, zB, zC, zD, zE, zF, zG, zH, zI, reduceCtorEq]
  · rintro k ⟨hk, hall⟩ KL0 hL0
    simp only [push_cast, ↓brB_true, ↓brB_false, ↓reduceIte, zA, zB, zC, zD, zE, zF, zG, zH, zI, reduceCtorEq]
    refine awp_seq' fun K2 hK2 => ?_
    refine awp_seq' fun K hK => ?_
    refine awp_region tyOk tyPos [] rfl ?_
    simp only [push_cast, ↓brB_true, ↓brB_false, ↓reduceIte, zA, zB, zC, zD, zE, zF, zG, zH, zI, reduceCtorEq]
    repeat' apply And.intro
    all_goals try exact gB
    all_goals first | (refine hK _ ?_; clear hK K) | (simp only [push_cast]; done)
    refine awp_cond rfl (fun hc => ?_) (fun hc => ?_) <;> (try simp only [push_cast] at hc)
    ·
      refine awp_skip ?_
      (try simp only [AThen, ABlk, reduceIte, zF]); refine hK2 _ ?_
      refine awp_seq' fun K3 hK3 => ?_
      refine awp_block ?_
      refine awp_seq' fun K hK => ?_
      refine awp_region tyOk tyPos [] rfl ?_
      simp only [push_cast, ↓brB_true, ↓brB_false, ↓reduceIte, zA, zB, zC, zD, zE, zF, zG, zH, zI, reduceCtorEq]
      repeat' apply And.intro
      all_goals try exact gB
      all_goals first | (refine hK _ ?_; clear hK K) | (simp only [push_cast]; done)
      refine awp_cond rfl (fun hc => ?_) (fun hc => ?_) <;> (try simp only [push_cast] at hc)
      ·
        refine awp_seq' fun K hK => ?_
        refine awp_region tyOk tyPos [] rfl ?_
        simp only [push_cast, ↓brB_true, ↓brB_false, ↓reduceIte, zA, zB, zC, zD, zE, zF, zG, zH, zI, reduceCtorEq]
        repeat' apply And.intro
        all_goals try exact gB
        all_goals first | (refine hK _ ?_; clear hK K) | (simp only [push_cast]; done)
        refine awp_ret ?_
        (try simp only [AThen, ABlk])
        refine ⟨Or.inl rfl, ?_⟩
        simp only [RetOk, push_cast, ↓brB_true, ↓brB_false, ↓reduceIte, zA, zB, zC, zD, zE, zF, zG, zH, zI, reduceCtorEq]
        have hf : fidx xs x = k := fidx_at (by omega) hall (by omega)
        unfold hasB
        rw [hf]
        exact (decide_eq_true (by omega)).symm
      ·
        refine awp_skip ?_
        (try simp only [AThen, ABlk, reduceIte, zF]); refine hK3 _ ?_
        refine awp_region tyOk tyPos [] rfl ?_
        simp only [push_cast, ↓brB_true, ↓brB_false, ↓reduceIte, zA, zB, zC, zD, zE, zF, zG, zH, zI, reduceCtorEq]
        repeat' apply And.intro
        all_goals try exact gB
        refine hL0 _ ⟨k + 1, ⟨by omega, fun j hj => (by
            by_cases hjk : j = k
            · subst hjk; omega
            · exact hall j (by omega))⟩, by omega, ?_⟩
        refine cov_of rfl ?_ ?_ ?_ <;> simp only [covS, covL, push_cast, ↓brB_true, ↓brB_false, ↓reduceIte, zA, zB, zC, zD, zE, zF, zG, zH, zI, reduceCtorEq]
    ·
      refine awp_exit ?_
      (try simp only [AThen, ABlk, reduceIte, zF]); refine hK1 _ ?_
      refine awp_seq' fun K hK => ?_
      refine awp_region tyOk tyPos [] rfl ?_
      simp only [push_cast, ↓brB_true, ↓brB_false, ↓reduceIte, zA, zB, zC, zD, zE, zF, zG, zH, zI, reduceCtorEq]
      repeat' apply And.intro
      all_goals try exact gB
      all_goals first | (refine hK _ ?_; clear hK K) | (simp only [push_cast]; done)
      refine awp_ret ?_
      (try simp only [AThen, ABlk])
      refine ⟨Or.inl rfl, ?_⟩
      simp only [RetOk, push_cast, ↓brB_true, ↓brB_false, ↓reduceIte, zA, zB, zC, zD, zE, zF, zG, zH, zI, reduceCtorEq]
      unfold hasB
      rw [fidx_none (fun j hj => hall j (by omega))]
      exact (decide_eq_false (by omega)).symm
end Go.Proofs.Ytklconkoamoabaa

namespace Go.Proofs.Ytklconkoamoabaa
open Go.RowKit
set_option linter.unusedVariables false
set_option linter.unusedSimpArgs false

end Go.Proofs.Ytklconkoamoabaa

namespace Go.Proofs.Ytklconkoamoabaa
open Go.Shelf
def SortLaid_ren : Go.Shelf.Ren := ⟨fun | 53 => 101 | 64 => 125 | 63 => 124 | 78 => 146 | 79 => 147 | 70 => 138 | 71 => 139 | 72 => 140 | 73 => 141 | 74 => 142 | 75 => 143 | 59 => 135 | 76 => 144 | 77 => 145 | 88 => 155 | 89 => 156 | 90 => 157 | 91 => 158 | 92 => 159 | 68 => 154 | 96 => 161 | n => n, fun | 22 => 22 | 23 => 2 | 3 => 3 | 51 => 133 | 0 => 0 | 67 => 157 | 69 => 159 | 4 => 4 | 61 => 151 | 60 => 150 | 44 => 125 | 5 => 5 | 9 => 9 | 75 => 166 | 79 => 170 | 83 => 174 | 84 => 175 | n => n, fun | n => n⟩
theorem SortLaid : Go.Proofs.SlLaysN.n53 Try.prog SortLaid_ren := {
  mixed := by kernel_rfl
  f53 := ⟨Try.f101.name, by decide, Try.func101.trans (congrArg some (by kernel_rfl))⟩
  f59 := ⟨Try.f135.name, by decide, Try.func135.trans (congrArg some (by kernel_rfl))⟩
  f63 := ⟨Try.f124.name, by decide, Try.func124.trans (congrArg some (by kernel_rfl))⟩
  f64 := Try.func125.trans (congrArg some (by kernel_rfl))
  f68 := ⟨Try.f154.name, by decide, Try.func154.trans (congrArg some (by kernel_rfl))⟩
  f70 := ⟨Try.f138.name, by decide, Try.func138.trans (congrArg some (by kernel_rfl))⟩
  f71 := ⟨Try.f139.name, by decide, Try.func139.trans (congrArg some (by kernel_rfl))⟩
  f72 := ⟨Try.f140.name, by decide, Try.func140.trans (congrArg some (by kernel_rfl))⟩
  f73 := ⟨Try.f141.name, by decide, Try.func141.trans (congrArg some (by kernel_rfl))⟩
  f74 := ⟨Try.f142.name, by decide, Try.func142.trans (congrArg some (by kernel_rfl))⟩
  f75 := ⟨Try.f143.name, by decide, Try.func143.trans (congrArg some (by kernel_rfl))⟩
  f76 := ⟨Try.f144.name, by decide, Try.func144.trans (congrArg some (by kernel_rfl))⟩
  f77 := ⟨Try.f145.name, by decide, Try.func145.trans (congrArg some (by kernel_rfl))⟩
  f78 := Try.func146.trans (congrArg some (by kernel_rfl))
  f79 := Try.func147.trans (congrArg some (by kernel_rfl))
  f88 := ⟨Try.f155.name, by decide, Try.func155.trans (congrArg some (by kernel_rfl))⟩
  f89 := Try.func156.trans (congrArg some (by kernel_rfl))
  f90 := Try.func157.trans (congrArg some (by kernel_rfl))
  f91 := ⟨Try.f158.name, by decide, Try.func158.trans (congrArg some (by kernel_rfl))⟩
  f92 := ⟨Try.f159.name, by decide, Try.func159.trans (congrArg some (by kernel_rfl))⟩
  f96 := ⟨Try.f161.name, by decide, Try.func161.trans (congrArg some (by kernel_rfl))⟩
  t0 := Try.underlying0
  a0 := Try.isAgg0
  z0 := Try.sizeOf0
  v0 := Try.zeroValue0
  t3 := Try.underlying3
  a3 := Try.isAgg3
  z3 := Try.sizeOf3
  v3 := Try.zeroValue3
  t4 := Try.underlying4
  a4 := Try.isAgg4
  z4 := Try.sizeOf4
  v4 := Try.zeroValue4
  t5 := Try.underlying5
  a5 := Try.isAgg5
  z5 := Try.sizeOf5
  v5 := Try.zeroValue5
  t9 := Try.underlying9
  a9 := Try.isAgg9
  z9 := Try.sizeOf9
  v9 := Try.zeroValue9
  t22 := Try.underlying22
  a22 := Try.isAgg22
  z22 := Try.sizeOf22
  v22 := Try.zeroValue22
  t23 := Try.underlying2
  a23 := Try.isAgg2
  z23 := Try.sizeOf2
  v23 := Try.zeroValue2
  t44 := Try.underlying125
  a44 := Try.isAgg125
  z44 := Try.sizeOf125
  v44 := Try.zeroValue125
  t51 := Try.underlying133
  a51 := Try.isAgg133
  z51 := Try.sizeOf133
  v51 := Try.zeroValue133
  t60 := Try.underlying150
  a60 := Try.isAgg150
  z60 := Try.sizeOf150
  v60 := Try.zeroValue150
  t61 := Try.underlying151
  a61 := Try.isAgg151
  z61 := Try.sizeOf151
  v61 := Try.zeroValue151
  t67 := Try.underlying157
  a67 := Try.isAgg157
  z67 := Try.sizeOf157
  v67 := Try.zeroValue157
  t69 := Try.underlying159
  a69 := Try.isAgg159
  z69 := Try.sizeOf159
  v69 := Try.zeroValue159
  t75 := Try.underlying166
  a75 := Try.isAgg166
  z75 := Try.sizeOf166
  v75 := Try.zeroValue166
  t79 := Try.underlying170
  a79 := Try.isAgg170
  z79 := Try.sizeOf170
  v79 := Try.zeroValue170
  t83 := Try.underlying174
  a83 := Try.isAgg174
  z83 := Try.sizeOf174
  v83 := Try.zeroValue174
  t84 := Try.underlying175
  a84 := Try.isAgg175
  z84 := Try.sizeOf175
  v84 := Try.zeroValue175 }
end Go.Proofs.Ytklconkoamoabaa

namespace Go.Proofs.Ytklconkoamoabaa
open Go Go.RowKit Go.Sort
set_option linter.unusedVariables false
set_option linter.unusedSimpArgs false

def sortI (xs : List Int) : List Int := xs.mergeSort fun x y => decide (x ≤ y)
theorem sortI_len (xs : List Int) : (sortI xs).length = xs.length := List.length_mergeSort ..
theorem sortI_perm (xs : List Int) : (sortI xs).Perm xs := List.mergeSort_perm ..
theorem sortI_sorted (xs : List Int) : (sortI xs).Pairwise (· ≤ ·) := by
  have := List.pairwise_mergeSort (le := fun x y : Int => decide (x ≤ y)) (fun a b c h1 h2 => by simp at h1 h2 ⊢; omega) (fun a b => by simp; omega) xs
  refine this.imp fun h => by simpa using h
theorem sortI_nil : sortI [] = [] := by simp [sortI]
theorem sort_callable : Callable Try.prog 101 := ⟨_, Try.func101, by decide +kernel, rfl⟩
theorem dI_vals {S : TypeId → Nat} {lo : Nat} {w : World} {ow : Nat → Option Pl} : ∀ {xs : List Int} {m : Md} {k : Nat} {vs : List Value}, RpL S lo w ow m k (dI xs) vs → vs = xs.map (Value.int .i64)
  | [], m, k, vs, h => by simpa only [dI, List.map_nil, RpL] using h
  | x :: xs, m, k, vs, h => by
    simp only [dI, List.map_cons, RpL, Rp] at h
    obtain ⟨v, vs', rfl, rfl, h2⟩ := h
    rw [dI_vals (xs := xs) h2]
    rfl
set_option maxHeartbeats 1000000 in
theorem Sort_fn (xs : List Int) (hl : xs.length ≤ 1048576) : FnG Try.prog tyT 101 [.c (DI xs)] [0] [(0, 2, dI (sortI xs))] [] := by
  refine ⟨sort_callable, fun lo w ow cargs hlo how hargs => ?_⟩
  obtain ⟨h1, h2⟩ := hargs
  obtain ⟨v, rfl⟩ : ∃ v, cargs = [v] := by
    cases cargs with
    | nil => simp at h1
    | cons v vs => cases vs with
      | nil => exact ⟨v, rfl⟩
      | cons _ _ => simp at h1
  obtain ⟨cs, k1, k2, k3⟩ := h2 0 _ v rfl rfl
  have hv : Rp (sz tyT) lo w ow (.ex 0 []) (DI xs) v := by
    rcases k3 with ⟨d, c, e1, rfl, rfl⟩ | ⟨ds, e1, -⟩ | ⟨f, ds, e1, -⟩
    · exact k2 0 _ _ rfl rfl
    · cases e1
    · cases e1
  simp only [DI, Rp] at hv
  obtain ⟨vs, ⟨q1, n, q2, q3, q4⟩, q5⟩ := hv
  have hs1 : sz tyT 2 = 1 := rfl
  have hvs := dI_vals q5
  rw [len_dI, hs1, Nat.mul_one] at q2
  subst q2
  rw [hs1] at q3
  have hh : hdArgs [v] 0 = v ∨ True := .inr trivial
  rcases q3.2 with ⟨rfl, h0⟩ | ⟨g, cap, cur, rfl, hg, hb, hc1, hc2, hc3, htake⟩
  · have hx : xs = [] := List.eq_nil_of_length_eq_zero h0
    subst hx
    refine (AnyG.slices_Sort_int_none SortLaid none 0 w).mono fun e w' ⟨he, hw⟩ => ?_
    subst hw; subst he
    refine ⟨[], fun b => none, rfl, Keep.start _, fun b _ _ => rfl, fun b p h => (by cases h), by simp [ResR], fun x hx => ?_⟩
    simp only [List.mem_singleton] at hx
    subst hx
    simp only [sortI_nil, show dI ([] : List Int) = [] from rfl]
    exact Rp_empty _ _ _
  · rw [hvs] at htake q3
    have hlt : g < w.heap.size := (Array.getElem?_eq_some_iff.1 hb).1
    rw [Nat.mul_one] at htake
    have hH := holds_of_blockI hb htake
    have hsl := sortI_len xs
    refine (AnyG.slices_Sort_int SortLaid g 0 cap xs w hH hlt (by omega)).mono fun e w' ⟨he, n, os, hw⟩ => ?_
    subst he
    have hgr : w.grownBy w' (some g) := by rw [hw]; exact grownBy_sortedI _
    have hown := ownsRow_sortedI (base := lo) (n := n) (os := os) (ts := sortI xs) hsl hg hb hc1 hc2 hc3
    rw [show (grow (putRow (Value.int .i64) (Sort.ahead w n) g 0 (sortI xs).toArray) os) = w' from hw.symm] at hown
    have hog := q4 g rfl
    refine ⟨[], fun b => match ow b with | some (.root d q) => if d = 0 then some (.root (outId 0) q) else none | _ => none, rfl, ⟨hgr.os, hgr.tape, hgr.output, hgr.size, fun b hb' hk => hgr.block b hb' (fun e => ?_)⟩, fun b _ h => by simp only [h], fun b p h => ?_, by simp [ResR], fun x hx => ?_⟩
    · simp only [Option.some.injEq] at e
      subst e
      simp only at hk
      rw [hog] at hk; cases hk
    · simp only at h
      split at h
      · rename_i d q ho
        split at h
        · cases h
          have := how b _ ho
          exact ⟨Nat.lt_of_lt_of_le this.1 hgr.size, this.2.1, _, _, rfl⟩
        · cases h
      · cases h
    · simp only [List.mem_singleton] at hx
      subst hx
      simp only
      refine (Rp_lst _ _).2 ⟨(sortI xs).map (Value.int .i64), ⟨by simp [len_dI], xs.length, by rw [len_dI, hs1, hsl, Nat.mul_one], ?_⟩, fun i x u hx hu => ?_⟩
      · simp only
        rw [hs1]
        exact ⟨hown, fun b hb' => by
          have : b = g := by simp [hdArgs, Value.ownBlock] at hb'; exact hb'.symm
          subst this
          simp only [hog, if_true]⟩
      · simp only [dI, List.getElem?_map] at hx hu
        cases hk : (sortI xs)[i]? with
        | none => rw [hk] at hx; cases hx
        | some y => rw [hk] at hx hu; cases hx; cases hu; simp only [Rp]
end Go.Proofs.Ytklconkoamoabaa

namespace Go.Proofs.Ytklconkoamoabaa
open Go.RowKit
set_option linter.unusedVariables false
set_option linter.unusedSimpArgs false

theorem perm_sorted_eq : ∀ {xs ys : List Int}, xs.Perm ys → xs.Pairwise (· ≤ ·) → ys.Pairwise (· ≤ ·) → xs = ys
  | [], ys, h, _, _ => (List.Perm.nil_eq h)
  | x :: xs, [], h, _, _ => by have := h.length_eq; simp at this
  | x :: xs, y :: ys, h, h1, h2 => by
    rw [List.pairwise_cons] at h1 h2
    have hx : x ∈ y :: ys := h.subset (by simp)
    have hy : y ∈ x :: xs := h.symm.subset (by simp)
    have e : x = y := by
      rw [List.mem_cons] at hx hy
      rcases hx with hx | hx
      · exact hx
      · rcases hy with hy | hy
        · exact hy.symm
        · have := h1.1 y hy; have := h2.1 x hx; omega
    subst e
    rw [perm_sorted_eq ((List.perm_cons x).1 h) h1.2 h2.2]
end Go.Proofs.Ytklconkoamoabaa

namespace Go.Proofs.Ytklconkoamoabaa
open Nat renaming reduceMod → zA, reduceMul → zB, reduceDiv → zC, reduceAdd → zD, reduceSub → zE, reduceEqDiff → zF, reduceBEq → zG, reduceLT → zH, reduceLeDiff → zI
open Go.RowKit
set_option linter.unusedVariables false
set_option linter.unusedSimpArgs false

def sameQ (u : Int) (r : List Int) (p : Plc) : Bool := decide (p.at_ = u) && decide (p.record = r)
theorem sameQ_no1 {u : Int} {r : List Int} {p : Plc} (h : ¬ p.at_ = u) : sameQ u r p = false := by unfold sameQ; rw [decide_eq_false h]; rfl
theorem sameQ_no2 {u : Int} {r : List Int} {p : Plc} (h : ¬ p.record = r) : sameQ u r p = false := by unfold sameQ; rw [decide_eq_false h, Bool.and_false]
theorem sameQ_yes {u : Int} {r : List Int} {p : Plc} (h : p.at_ = u) (h2 : p.record = r) : sameQ u r p = true := by unfold sameQ; rw [decide_eq_true h, decide_eq_true h2]; rfl
def ixQ (p : Plc → Bool) (ps : List Plc) : Int := if ps.findIdx p < ps.length then ps.findIdx p else -1
theorem gq_get {ps : List Plc} {k : Nat} (h : k < ps.length) : ps[k] = gq ps k := by
  have := gq_lt h
  rw [List.getElem?_eq_getElem h] at this
  exact Option.some.inj this
theorem ixQ_found {p : Plc → Bool} {ps : List Plc} {k : Nat} (hk : k < ps.length) (h : ∀ j, j < k → p (gq ps j) = false) (hp : p (gq ps k) = true) : ixQ p ps = k := by
  have e : ps.findIdx p = k := by
    rw [List.findIdx_eq hk]
    refine ⟨by rw [gq_get hk]; exact hp, fun j hj => ?_⟩
    rw [gq_get (by omega)]
    exact h j hj
  unfold ixQ
  rw [e, if_pos hk]
theorem ixQ_none {p : Plc → Bool} {ps : List Plc} (h : ∀ j, j < ps.length → p (gq ps j) = false) : ixQ p ps = -1 := by
  have e : ¬ ps.findIdx p < ps.length := fun h9 => by
    have h1 := List.findIdx_getElem (w := h9)
    rw [gq_get h9, h _ h9] at h1
    cases h1
  unfold ixQ
  rw [if_neg e]
theorem ins_sort {ys : List Int} {x : Int} {k : Nat} (hk : k ≤ ys.length) (hs : ys.Pairwise (· ≤ ·)) (h1 : ∀ j, k ≤ j → j < ys.length → gi ys j > x) (h2 : k = 0 ∨ gi ys (k - 1) ≤ x) : (ys.take k ++ [x] ++ ys.drop k).Pairwise (· ≤ ·) := by
  have hg : ∀ {j} (hj : j < ys.length), ys[j] = gi ys j := fun {j} hj => by
    have h3 := gi_lt (xs := ys) (k := j) hj
    rw [List.getElem?_eq_getElem hj] at h3
    exact Option.some.inj h3
  have hle : ∀ y ∈ ys.take k, y ≤ x := fun y hy => by
    obtain ⟨j, hj, rfl⟩ := List.mem_iff_getElem.1 hy
    rw [List.length_take] at hj
    rw [List.getElem_take]
    rcases h2 with h2 | h2
    · omega
    · rw [← hg (j := k - 1) (by omega)] at h2
      rcases Nat.lt_or_ge j (k - 1) with h | h
      · have := List.pairwise_iff_getElem.1 hs j (k - 1) (by omega) (by omega) h
        omega
      · have : j = k - 1 := by omega
        subst this; exact h2
  have hgt : ∀ y ∈ ys.drop k, x ≤ y := fun y hy => by
    obtain ⟨j, hj, rfl⟩ := List.mem_iff_getElem.1 hy
    rw [List.length_drop] at hj
    rw [List.getElem_drop, hg (by omega)]
    have := h1 (k + j) (by omega) (by omega)
    omega
  rw [List.append_assoc, List.pairwise_append]
  refine ⟨hs.sublist (List.take_sublist _ _), ?_, fun y hy z hz => ?_⟩
  · rw [List.singleton_append, List.pairwise_cons]
    exact ⟨hgt, hs.sublist (List.drop_sublist _ _)⟩
  · rw [List.singleton_append, List.mem_cons] at hz
    rcases hz with rfl | hz
    · exact hle y hy
    · have := hle y hy; have := hgt z hz; omega
theorem ins_is {xs : List Int} {i k : Nat} (hi : i < xs.length) (hk : k ≤ i) (h1 : ∀ j, k ≤ j → j < i → gi (sortI (xs.take i)) j > gi xs i) (h2 : k = 0 ∨ gi (sortI (xs.take i)) (k - 1) ≤ gi xs i) : (sortI (xs.take i)).take k ++ [gi xs i] ++ (sortI (xs.take i)).drop k = sortI (xs.take (i + 1)) := by
  have hl : (sortI (xs.take i)).length = i := by rw [sortI_len, List.length_take]; omega
  refine perm_sorted_eq ?_ (ins_sort (by omega) (sortI_sorted _) (fun j h3 h4 => h1 j h3 (by omega)) h2) (sortI_sorted _)
  refine List.Perm.trans ?_ (sortI_perm _).symm
  rw [tk_snocI hi]
  refine List.Perm.trans (l₂ := [gi xs i] ++ ((sortI (xs.take i)).take k ++ (sortI (xs.take i)).drop k)) ?_ ?_
  · rw [← List.append_assoc]
    exact List.Perm.append_right _ List.perm_append_comm
  · rw [List.take_append_drop]
    exact List.perm_append_comm.trans (List.Perm.append_right _ (sortI_perm _))
theorem ins_cov {xs : List Int} {i k : Nat} (hi : i < xs.length) (hk : k ≤ i) (h1 : ∀ j, k ≤ j → j < i → gi (sortI (xs.take i)) j > gi xs i) (h2 : k = 0 ∨ gi (sortI (xs.take i)) (k - 1) ≤ gi xs i) : List.take (k + 1) (List.take k (List.take k (sortI (xs.take i))) ++ [gi xs i]) ++ List.take (i - k) (List.drop k (sortI (xs.take i))) = sortI (xs.take (i + 1)) := by
  have hl : (sortI (xs.take i)).length = i := by rw [sortI_len, List.length_take]; omega
  rw [List.take_take, Nat.min_self, List.take_of_length_le (l := (sortI (xs.take i)).take k ++ [gi xs i]) (by rw [List.length_append, List.length_take, List.length_singleton]; omega), List.take_of_length_le (l := (sortI (xs.take i)).drop k) (by rw [List.length_drop]; omega)]
  exact ins_is hi hk h1 h2
set_option maxRecDepth 20000 in
set_option maxHeartbeats 4000000 in
theorem l17Find_fn (ps : List Plc) (ha : QLn 1048576 ps) (u : Int) (r : List Int) (hr : r.length ≤ 1048576) : Fn Try.prog tyT 66 [.c (.lst 78 (dPls ps)), .c (.int .i64 u), .c (DI r)] [.c (.int .i64 (ixQ (sameQ u r) ps))] := by
  have hl := ha.1
  have hgl := fun k => gq_le ha k
  refine Fn_of (fn := Try.f66) (ts := [6]) Try.func66 (by kernel_rfl) rfl rfl (by rw [Try.ntmps66]; exact Nat.le_of_ble_eq_true rfl) rfl (by simp only [szA, List.mem_cons, List.not_mem_nil, or_false, forall_eq_or_imp, forall_eq, VT.cells, szL]; try decide) ?_
  rw [Try.ntmps66]
  simp only [push_cast, ↓brB_true, ↓brB_false, ↓reduceIte, zA, zB, zC, zD, zE, zF, zG, zH, zI, reduceCtorEq]
  refine awp_seq' fun K hK => ?_
  refine awp_region tyOk tyPos [] rfl ?_
  all_goals simp only [push_cast, ↓brB_true, ↓brB_false, ↓reduceIte, zA, zB, zC, zD, zE, zF, zG, zH, zI, reduceCtorEq]
  all_goals repeat' (first | (apply brB_mk <;> (intro hg; (try simp only [push_cast] at hg))) | apply And.intro | (intro hg; (try simp only [push_cast] at hg)))
  all_goals first | exact gA | (exact getE_dPls (by omega)) | skip
  all_goals first | (refine hK _ ?_; clear hK K) | (simp only [push_cast]; done)
  refine awp_seq' fun K1 hK1 => ?_
  refine awp_seq' fun K hK => ?_
  refine awp_region tyOk tyPos [] rfl ?_
  all_goals simp only [push_cast, ↓brB_true, ↓brB_false, ↓reduceIte, zA, zB, zC, zD, zE, zF, zG, zH, zI, reduceCtorEq]
  all_goals repeat' (first | (apply brB_mk <;> (intro hg; (try simp only [push_cast] at hg))) | apply And.intro | (intro hg; (try simp only [push_cast] at hg)))
  all_goals first | exact gA | (exact getE_dPls (by omega)) | skip
  all_goals first | (refine hK _ ?_; clear hK K) | (simp only [push_cast]; done)
  refine awp_block ?_
  refine awp_loopU [6,7,8,9,10,11,12,13,14,15,16,17,18,19,20,21,22,23,24,25,26,27,28,29,30] [] (fun (k : Nat) => [(7, .int .i64 k)]) (fun k => []) (fun k => []) (fun k => k ≤ ps.length ∧ ∀ j, j < k → sameQ u r (gq ps j) = false) (fun k => ps.length - k) 0 ?_ ⟨by omega, fun j hj => by omega⟩ ?_
  ·
    refine cov_of rfl ?_ ?_ ?_ <;> simp only [covS, covL, push_cast, ↓brB_true, ↓brB_false, ↓reduceIte, zA, zB, zC, zD, zE, zF, zG, zH, zI, reduceCtorEq]
  · rintro k ⟨hk, hall⟩ KL0 hL0
    simp only [push_cast, ↓brB_true, ↓brB_false, ↓reduceIte, zA, zB, zC, zD, zE, zF, zG, zH, zI, reduceCtorEq]
    refine awp_seq' fun K2 hK2 => ?_
    refine awp_seq' fun K hK => ?_
    refine awp_region tyOk tyPos [] rfl ?_
    all_goals simp only [push_cast, ↓brB_true, ↓brB_false, ↓reduceIte, zA, zB, zC, zD, zE, zF, zG, zH, zI, reduceCtorEq]
    all_goals repeat' (first | (apply brB_mk <;> (intro hg; (try simp only [push_cast] at hg))) | apply And.intro | (intro hg; (try simp only [push_cast] at hg)))
    all_goals first | exact gA | (exact getE_dPls (by omega)) | skip
    all_goals first | (refine hK _ ?_; clear hK K) | (simp only [push_cast]; done)
    refine awp_cond rfl (fun hc => ?_) (fun hc => ?_) <;> (try simp only [push_cast] at hc)
    ·
      refine awp_skip ?_
      (try simp only [AThen, ABlk, reduceIte, zF]); refine hK2 _ ?_
      refine awp_seq' fun K3 hK3 => ?_
      refine awp_block ?_
      refine awp_seq' fun K hK => ?_
      refine awp_regionN false tyOk tyPos ?_ rfl ?_
      · kernel_rfl
      all_goals refine seqE_cut 15 fun K9 hK9 => ?_
      all_goals simp only [push_cast, ↓brB_true, ↓brB_false, ↓reduceIte, zA, zB, zC, zD, zE, zF, zG, zH, zI, reduceCtorEq]
      all_goals repeat' (first | (apply brB_mk <;> (intro hg; (try simp only [push_cast] at hg))) | (refine ⟨_, l16SameInts_fn (gq ps k).record r (hgl k) hr, ?_⟩; simp only [push_cast, ↓brB_true, ↓brB_false, ↓reduceIte, zA, zB, zC, zD, zE, zF, zG, zH, zI, reduceCtorEq]) | apply And.intro | (intro hg; (try simp only [push_cast] at hg)))
      all_goals first | exact gA | (exact getE_dPls (by omega)) | skip
      all_goals first | (refine hK9 _ ?_; clear hK9 K9) | (simp only [push_cast]; done)
      all_goals simp only [push_cast, ↓brB_true, ↓brB_false, ↓reduceIte, zA, zB, zC, zD, zE, zF, zG, zH, zI, reduceCtorEq]
      all_goals repeat' (first | (apply brB_mk <;> (intro hg; (try simp only [push_cast] at hg))) | (refine ⟨_, l16SameInts_fn (gq ps k).record r (hgl k) hr, ?_⟩; simp only [push_cast, ↓brB_true, ↓brB_false, ↓reduceIte, zA, zB, zC, zD, zE, zF, zG, zH, zI, reduceCtorEq]) | apply And.intro | (intro hg; (try simp only [push_cast] at hg)))
      all_goals first | exact gA | (exact getE_dPls (by omega)) | skip
      all_goals first | (refine hK _ ?_; clear hK K) | (simp only [push_cast]; done)
      all_goals refine awp_cond rfl (fun hc => ?_) (fun hc => ?_)
      all_goals (first | (cases hc; done) | skip)
      all_goals (try simp only [push_cast] at hc)
      all_goals first
        | (
            refine awp_skip ?_
            (try simp only [AThen, ABlk, reduceIte, zF]); refine hK3 _ ?_
            refine awp_region tyOk tyPos [] rfl ?_
            all_goals simp only [push_cast, ↓brB_true, ↓brB_false, ↓reduceIte, zA, zB, zC, zD, zE, zF, zG, zH, zI, reduceCtorEq]
            all_goals repeat' (first | (apply brB_mk <;> (intro hg; (try simp only [push_cast] at hg))) | apply And.intro | (intro hg; (try simp only [push_cast] at hg)))
            all_goals first | exact gA | (exact getE_dPls (by omega)) | skip
            refine hL0 _ ⟨k + 1, ⟨by omega, fun j hj => (by
                by_cases hjk : j = k
                · subst hjk; first | exact sameQ_no1 (by omega) | exact sameQ_no2 (by simpa using hc) | exact sameQ_no2 (by with_reducible assumption)
                · exact hall j (by omega))⟩, by omega, ?_⟩
            refine cov_of rfl ?_ ?_ ?_ <;> simp only [covS, covL, push_cast, ↓brB_true, ↓brB_false, ↓reduceIte, zA, zB, zC, zD, zE, zF, zG, zH, zI, reduceCtorEq]
            done)
        | (
            refine awp_seq' fun K hK => ?_
            refine awp_region tyOk tyPos [] rfl ?_
            all_goals simp only [push_cast, ↓brB_true, ↓brB_false, ↓reduceIte, zA, zB, zC, zD, zE, zF, zG, zH, zI, reduceCtorEq]
            all_goals repeat' (first | (apply brB_mk <;> (intro hg; (try simp only [push_cast] at hg))) | apply And.intro | (intro hg; (try simp only [push_cast] at hg)))
            all_goals first | exact gA | (exact getE_dPls (by omega)) | skip
            all_goals first | (refine hK _ ?_; clear hK K) | (simp only [push_cast]; done)
            refine awp_ret ?_
            (try simp only [AThen, ABlk])
            refine ⟨Or.inl rfl, ?_⟩
            simp only [RetOk, push_cast, ↓brB_true, ↓brB_false, ↓reduceIte, zA, zB, zC, zD, zE, zF, zG, zH, zI, reduceCtorEq]
            exact (ixQ_found (k := k) (by omega) hall (sameQ_yes (by omega) (by with_reducible assumption))).symm
            done)
    ·
      refine awp_exit ?_
      (try simp only [AThen, ABlk, reduceIte, zF]); refine hK1 _ ?_
      refine awp_seq' fun K hK => ?_
      refine awp_region tyOk tyPos [] rfl ?_
      all_goals simp only [push_cast, ↓brB_true, ↓brB_false, ↓reduceIte, zA, zB, zC, zD, zE, zF, zG, zH, zI, reduceCtorEq]
      all_goals repeat' (first | (apply brB_mk <;> (intro hg; (try simp only [push_cast] at hg))) | apply And.intro | (intro hg; (try simp only [push_cast] at hg)))
      all_goals first | exact gA | (exact getE_dPls (by omega)) | skip
      all_goals first | (refine hK _ ?_; clear hK K) | (simp only [push_cast]; done)
      refine awp_ret ?_
      (try simp only [AThen, ABlk])
      refine ⟨Or.inl rfl, ?_⟩
      simp only [RetOk, push_cast, ↓brB_true, ↓brB_false, ↓reduceIte, zA, zB, zC, zD, zE, zF, zG, zH, zI, reduceCtorEq]
      all_goals first | (rw [ixQ_none fun j hj => hall j (by omega)]; done) | (rw [ixQ_none fun j hj => hall j (by omega)]; rfl)
set_option maxRecDepth 20000 in
set_option maxHeartbeats 4000000 in
theorem l17Sorted_fn (xs : List Int) (hx : xs.length ≤ 1048576) : Fn Try.prog tyT 67 [.c (DI xs)] [.c (DI (sortI xs))] := by
  refine Fn_of (fn := Try.f67) (ts := [2]) Try.func67 (by kernel_rfl) rfl rfl (by rw [Try.ntmps67]; exact Nat.le_of_ble_eq_true rfl) rfl (by simp only [szA, List.mem_cons, List.not_mem_nil, or_false, forall_eq_or_imp, forall_eq, VT.cells, szL]; try decide) ?_
  rw [Try.ntmps67]
  simp only [push_cast, ↓brB_true, ↓brB_false, ↓reduceIte, zA, zB, zC, zD, zE, zF, zG, zH, zI, reduceCtorEq]
  refine awp_seq' fun K hK => ?_
  refine awp_region tyOk tyPos [] rfl ?_
  simp only [push_cast, ↓brB_true, ↓brB_false, ↓reduceIte, zA, zB, zC, zD, zE, zF, zG, zH, zI, reduceCtorEq]
  repeat' apply And.intro
  all_goals try exact gB
  all_goals first | (refine hK _ ?_; clear hK K) | (simp only [push_cast]; done)
  refine awp_seq' fun K hK => ?_
  refine awp_region tyOk tyPos [] rfl ?_
  simp only [push_cast, ↓brB_true, ↓brB_false, ↓reduceIte, zA, zB, zC, zD, zE, zF, zG, zH, zI, reduceCtorEq]
  repeat' apply And.intro
  all_goals try exact gB
  all_goals first | (refine hK _ ?_; clear hK K) | (simp only [push_cast]; done)
  refine awp_seq' fun K1 hK1 => ?_
  refine awp_seq' fun K hK => ?_
  refine awp_region tyOk tyPos [] rfl ?_
  simp only [push_cast, ↓brB_true, ↓brB_false, ↓reduceIte, zA, zB, zC, zD, zE, zF, zG, zH, zI, reduceCtorEq]
  repeat' apply And.intro
  all_goals try exact gB
  all_goals first | (refine hK _ ?_; clear hK K) | (simp only [push_cast]; done)
  refine awp_block ?_
  refine awp_loopU [3,4,5,6,8,9,10,11,12,13,14,15,16,17,18,19,20,21,22,23,24,25,26,27,28,29,30,31,32,33,34,35,36,37,38,39,40,41,42,43,44,45,46,47,48] [48] (fun (i : Nat) => [(4, .int .i64 i), (3, .sl 48 [] 0 i 2)]) (fun i => []) (fun i => [(48, ⟨.ex, 2, dI (sortI (xs.take i)), none⟩)]) (fun i => i ≤ xs.length) (fun i => xs.length - i) 0 ?_ (by omega) ?_
  ·
    rw [List.take_zero, sortI_nil, show dI ([] : List Int) = [] from rfl]
    refine cov_of rfl ?_ ?_ ?_ <;> simp only [covS, covL, push_cast, ↓brB_true, ↓brB_false, ↓reduceIte, zA, zB, zC, zD, zE, zF, zG, zH, zI, reduceCtorEq]
  · rintro i hi KL0 hL0
    have hol : (sortI (xs.take i)).length = i := by rw [sortI_len, List.length_take]; omega
    simp only [push_cast, ↓brB_true, ↓brB_false, ↓reduceIte, zA, zB, zC, zD, zE, zF, zG, zH, zI, reduceCtorEq]
    refine awp_seq' fun K2 hK2 => ?_
    refine awp_seq' fun K hK => ?_
    refine awp_region tyOk tyPos [] rfl ?_
    simp only [push_cast, ↓brB_true, ↓brB_false, ↓reduceIte, zA, zB, zC, zD, zE, zF, zG, zH, zI, reduceCtorEq]
    repeat' apply And.intro
    all_goals try exact gB
    all_goals first | (refine hK _ ?_; clear hK K) | (simp only [push_cast]; done)
    refine awp_cond rfl (fun hc => ?_) (fun hc => ?_) <;> (try simp only [push_cast] at hc)
    ·
      refine awp_skip ?_
      (try simp only [AThen, ABlk, reduceIte, zF]); refine hK2 _ ?_
      refine awp_seq' fun K3 hK3 => ?_
      refine awp_block ?_
      refine awp_seq' fun K hK => ?_
      refine awp_region tyOk tyPos [] rfl ?_
      simp only [push_cast, ↓brB_true, ↓brB_false, ↓reduceIte, zA, zB, zC, zD, zE, zF, zG, zH, zI, reduceCtorEq]
      repeat' apply And.intro
      all_goals try exact gB
      all_goals first | (refine hK _ ?_; clear hK K) | (simp only [push_cast]; done)
      refine awp_seq' fun K4 hK4 => ?_
      refine awp_block ?_
      refine awp_loopU [5,16,17,18,19,20,21,22,23,24,25,26,27,28,29,30,31] [] (fun (k : Nat) => [(5, .int .i64 k)]) (fun k => []) (fun k => []) (fun k => k ≤ i ∧ ∀ j, k ≤ j → j < i → gi (sortI (xs.take i)) j > gi xs i) (fun k => k) i ?_ ⟨by omega, fun j h8 h9 => by omega⟩ ?_
      ·
        refine cov_of rfl ?_ ?_ ?_ <;> simp only [covS, covL, push_cast, ↓brB_true, ↓brB_false, ↓reduceIte, zA, zB, zC, zD, zE, zF, zG, zH, zI, reduceCtorEq]
      · rintro k ⟨hk, hall⟩ KL1 hL1
        simp only [push_cast, ↓brB_true, ↓brB_false, ↓reduceIte, zA, zB, zC, zD, zE, zF, zG, zH, zI, reduceCtorEq]
        refine awp_seq' fun K5 hK5 => ?_
        refine awp_seq' fun K hK => ?_
        refine awp_regionD1 false tyOk tyPos tyMix ?_ rfl ?_
        · kernel_rfl
        intro E hE
        all_goals simp only [push_cast, ↓brB_true, ↓brB_false, ↓reduceIte, zA, zB, zC, zD, zE, zF, zG, zH, zI, reduceCtorEq]
        all_goals repeat' (first | (apply brB_mk <;> (intro hg; (try simp only [push_cast] at hg))) | apply And.intro | (intro hg; (try simp only [push_cast] at hg)))
        all_goals first | exact gA | (refine hE _ _ ?_ ?_; kernel_rfl) | skip
        all_goals clear hE E
        all_goals first | (refine hK _ ?_; clear hK K) | (simp only [push_cast]; done)
        all_goals refine awp_cond rfl (fun hc => ?_) (fun hc => ?_)
        all_goals (first | (cases hc; done) | skip)
        all_goals (try simp only [push_cast] at hc)
        all_goals try (
            refine awp_exit ?_
            (try simp only [AThen, ABlk, reduceIte, zF]); refine hK4 _ ?_
            refine awp_seq' fun K hK => ?_
            refine awp_region tyOk tyPos [] rfl ?_
            simp only [push_cast, ↓brB_true, ↓brB_false, ↓reduceIte, zA, zB, zC, zD, zE, zF, zG, zH, zI, reduceCtorEq]
            repeat' apply And.intro
            all_goals try exact gB
            all_goals first | (refine hK _ ?_; clear hK K) | (simp only [push_cast]; done)
            refine awp_seq' fun K hK => ?_
            refine awp_region tyOk tyPos [] rfl ?_
            simp only [push_cast, ↓brB_true, ↓brB_false, ↓reduceIte, zA, zB, zC, zD, zE, zF, zG, zH, zI, reduceCtorEq]
            repeat' apply And.intro
            all_goals try exact gB
            all_goals first | (refine hK _ ?_; clear hK K) | (simp only [push_cast]; done)
            refine awp_region tyOk tyPos [] rfl ?_
            simp only [push_cast, ↓brB_true, ↓brB_false, ↓reduceIte, zA, zB, zC, zD, zE, zF, zG, zH, zI, reduceCtorEq]
            repeat' apply And.intro
            all_goals try exact gB
            (try simp only [AThen, ABlk, reduceIte, zF]); refine hK3 _ ?_
            refine awp_region tyOk tyPos [] rfl ?_
            simp only [push_cast, ↓brB_true, ↓brB_false, ↓reduceIte, zA, zB, zC, zD, zE, zF, zG, zH, zI, reduceCtorEq]
            repeat' apply And.intro
            all_goals try exact gB
            refine hL0 _ ⟨i + 1, by omega, by omega, ?_⟩
            refine cov_of rfl ?_ ?_ ?_ <;> simp only [covS, covL, push_cast, ↓brB_true, ↓brB_false, ↓reduceIte, zA, zB, zC, zD, zE, zF, zG, zH, zI, reduceCtorEq]
            all_goals first | (rw [show k + 1 + (i - k) = i + 1 from by omega]; done) | (rw [ins_cov (by omega) (by omega) (fun j h8 h9 => hall j h8 h9) (by first | exact .inl (by omega) | exact .inr (by omega))]; done) | skip
            done)
        refine awp_skip ?_
        (try simp only [AThen, ABlk, reduceIte, zF]); refine hK5 _ ?_
        refine awp_block ?_
        refine awp_region tyOk tyPos [] rfl ?_
        simp only [push_cast, ↓brB_true, ↓brB_false, ↓reduceIte, zA, zB, zC, zD, zE, zF, zG, zH, zI, reduceCtorEq]
        repeat' apply And.intro
        all_goals try exact gB
        refine hL1 _ ⟨k - 1, ⟨by omega, fun j h8 h9 => (by
            by_cases hjk : j = k - 1
            · subst hjk; omega
            · exact hall j (by omega) h9)⟩, by omega, ?_⟩
        refine cov_of rfl ?_ ?_ ?_ <;> simp only [covS, covL, push_cast, ↓brB_true, ↓brB_false, ↓reduceIte, zA, zB, zC, zD, zE, zF, zG, zH, zI, reduceCtorEq]
        all_goals (try (refine congrArg (AV.int .i64) ?_; omega))
    ·
      refine awp_exit ?_
      have hii : i = xs.length := by omega
      subst hii
      rw [List.take_length]
      (try simp only [AThen, ABlk, reduceIte, zF]); refine hK1 _ ?_
      refine awp_seq' fun K hK => ?_
      refine awp_region tyOk tyPos [] rfl ?_
      simp only [push_cast, ↓brB_true, ↓brB_false, ↓reduceIte, zA, zB, zC, zD, zE, zF, zG, zH, zI, reduceCtorEq]
      repeat' apply And.intro
      all_goals try exact gB
      all_goals first | (refine hK _ ?_; clear hK K) | (simp only [push_cast]; done)
      refine awp_ret ?_
      (try simp only [AThen, ABlk])
      refine ⟨Or.inl rfl, ?_⟩
      simp only [RetOk, push_cast, ↓brB_true, ↓brB_false, ↓reduceIte, zA, zB, zC, zD, zE, zF, zG, zH, zI, reduceCtorEq]
      all_goals first | rfl | exact ⟨rfl, rfl⟩ | exact ⟨rfl, (sortI_len xs).symm⟩ | (simp [sortI_len]; done)
end Go.Proofs.Ytklconkoamoabaa
