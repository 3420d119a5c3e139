/- FamilyGame: the program's side, the game of places -/
import Derived.Test.YtklconkoamoabaaB11zfg
import Derived.Test.YtklconkoamoabaaB12zfg
namespace Go.Proofs.Ytklconkoamoabaa
open Nat renaming reduceMod → zA, reduceMul → zB, reduceDiv → zC, reduceAdd → zD, reduceSub → zE, reduceEqDiff → zF, reduceBEq → zG, reduceLT → zH, reduceLeDiff → zI
open Go.RowKit
set_option linter.unusedVariables false
set_option linter.unusedSimpArgs false

theorem st_open9 {us rc : Plc → List Int} {p0 : Plc} {n : Nat} (h : n ≤ (stQ us rc p0 n).length) : ∀ j, j < n → j < (stQ us rc p0 j).length := fun j hj => by
  rcases Nat.lt_or_ge j (stQ us rc p0 j).length with h1 | h1
  · exact h1
  · have := stQ_stop (us := us) (rc := rc) (p0 := p0) (i := j) (by omega) (j := n) (by omega)
    rw [this] at h
    omega
theorem nx_len9 {a : Ar} {rc : Plc → List Int} {p0 : Plc} {V : List Int → Prop} {B : Nat} (ha : arenaB a = true) (h : PlOk a rc p0 V B) {n : Nat} (hall : ∀ j, j < n → j < (stQ (usA a) rc p0 j).length) : ∀ r ∈ nxG a rc p0 n, r.length ≤ 16 := fun r hr => by
  unfold nxG at hr
  obtain ⟨j, hj, rfl⟩ := List.mem_map.1 hr
  have hj := hall j (List.mem_range.1 hj)
  have hp := pl_all ha h j _ (gq_mem hj)
  have h2 := (us_rg ha ⟨hp.1, hp.2.1⟩).2.1
  unfold nxQ
  rw [sortI_len]
  have h3 := (rowT_len (r := rc (gq (stQ (usA a) rc p0 j) j)) (us := usA a (gq (stQ (usA a) rc p0 j) j)) (ps := stQ (usA a) rc p0 j) (Nat.le_refl _)).1
  show (rowT _ _ _ _).2.length ≤ _
  rw [h3]
  omega
set_option maxRecDepth 20000 in
set_option maxHeartbeats 16000000 in
theorem placesGame_fam (a : Ar) (ha : a.Ln 1048576) (f : Fm) (hf : f.Ln 1048576) (s : Int) (hPre : arenaB a = true ∧ PlOk a rcF ⟨s, f.names⟩ (fun r => visB f r = true) 4) (K0 : AV → List AV → List (Nat × Root) → Prop) (hKA : okQ (usA a) rcF ⟨s, f.names⟩ = false → K0 (.tup [.agg [.sl 128 [] 0 0 2, .sl 129 [] 0 0 22, .sl 130 [] 0 0 2], .sl 144 [] 0 0 78, .bool false]) [.sl 96 [] 0 0 2, .sl 97 [] 0 0 22, .sl 98 [] 0 0 2] [(128, ⟨.ex, 2, [], none⟩), (129, ⟨.ex, 22, [], none⟩), (130, ⟨.ex, 2, [], none⟩), (144, ⟨.ex, 78, [], none⟩)]) (hKB : ∀ i, i ≤ 256 → ¬ i < (stQ (usA a) rcF ⟨s, f.names⟩ i).length → i ≤ (stQ (usA a) rcF ⟨s, f.names⟩ i).length → K0 (.tup [.agg [.sl 128 [] 0 i 2, .sl 129 [] 0 i 22, .sl 130 [] 0 i 2], .sl 144 [] 0 (stQ (usA a) rcF ⟨s, f.names⟩ i).length 78, .bool true]) [.sl 96 [] 0 0 2, .sl 97 [] 0 0 22, .sl 98 [] 0 0 2] [(128, ⟨.ex, 2, dI (ownG a rcF ⟨s, f.names⟩ i), none⟩), (129, ⟨.ex, 22, dII (nxG a rcF ⟨s, f.names⟩ i), none⟩), (130, ⟨.ex, 2, dI (prG a rcF (prF f) ⟨s, f.names⟩ i), none⟩), (144, ⟨.ex, 78, dPls (stQ (usA a) rcF ⟨s, f.names⟩ i), none⟩)]) : awp Try.prog tyT (Try.f71.body.getD .skip) (RetI tyT [.cell 8 48, .tmp 9, .tmp 10] K0) ⟨89, [(0, .agg [.sl 0 [] 0 a.owner.length 2, .sl 1 [] 0 a.next.length 22]), (1, .agg [.int .i64 s, .sl 496 [] 0 f.names.length 2]), (2, .fn 72 [.bp 4 0]), (3, .fn 74 [.bp 4 0])], [(1000000, [.sl 96 [] 0 0 2, .sl 97 [] 0 0 22, .sl 98 [] 0 0 2]), (4, [.sl 16 [] 0 f.names.length 2, .sl 17 [] 0 f.sets.length 22])], [(0, ⟨.sh, 2, dI a.owner, none⟩), (1, ⟨.sh, 22, dII a.next, none⟩), (16, ⟨.sh, 2, dI f.names, none⟩), (17, ⟨.sh, 22, dII f.sets, none⟩), (496, ⟨.ex, 2, dI f.names, none⟩)]⟩ := by
  have hno := ha.owner
  have hnn := ha.next.1
  have hrr : ∀ v, (gl a.next v).length ≤ 1048576 := fun v => gl_le ha.next v
  unfold LnI at hno
  have h1 := hPre.1
  have h3 := hPre.2
  have hln := arenaB_len h1
  refine awp_renB 4 2000 rfl rfl ?_
  simp only [push_cast, ↓brB_true, ↓brB_false, ↓reduceIte, zA, zB, zC, zD, zE, zF, zG, zH, zI, reduceCtorEq]
  refine inl_of rfl ?_
  (try simp only [push_cast, ↓brB_true, ↓brB_false, ↓reduceIte, zA, zB, zC, zD, zE, zF, zG, zH, zI, reduceCtorEq])
  refine awp_seq' fun K hK => ?_
  refine awp_region tyOk tyPos [] rfl ?_
  all_goals simp only [push_cast, ↓brB_true, ↓brB_false, ↓reduceIte, zA, zB, zC, zD, zE, zF, zG, zH, zI, reduceCtorEq]
  all_goals repeat' (first | (apply brB_mk <;> (intro hg; (try simp only [push_cast] at hg))) | apply And.intro | (intro hg; (try simp only [push_cast] at hg)))
  all_goals first | exact gA | (exact getE_dPls (by omega)) | skip
  all_goals first | (refine hK _ ?_; clear hK K) | (simp only [push_cast]; done)
  refine awp_seq' fun K hK => ?_
  refine awp_regionN false tyOk tyPos ?_ rfl ?_
  · kernel_rfl
  simp only [push_cast, ↓brB_true, ↓brB_false, ↓reduceIte, zA, zB, zC, zD, zE, zF, zG, zH, zI, reduceCtorEq]
  all_goals repeat' (first | (apply brB_mk <;> (intro hg; (try simp only [push_cast] at hg))) | apply And.intro | (intro hg; (try simp only [push_cast] at hg)))
  all_goals first | exact gA | (exact getE_dPls (by omega)) | skip
  all_goals first | (refine hK _ ?_; clear hK K) | (simp only [push_cast]; done)
  refine awp_seq' fun K hK => ?_
  refine awp_region tyOk tyPos [] rfl ?_
  all_goals simp only [push_cast, ↓brB_true, ↓brB_false, ↓reduceIte, zA, zB, zC, zD, zE, zF, zG, zH, zI, reduceCtorEq]
  all_goals repeat' (first | (apply brB_mk <;> (intro hg; (try simp only [push_cast] at hg))) | apply And.intro | (intro hg; (try simp only [push_cast] at hg)))
  all_goals first | exact gA | (exact getE_dPls (by omega)) | skip
  all_goals first | (refine hK _ ?_; clear hK K) | (simp only [push_cast]; done)
  refine awp_seq' fun K1 hK1 => ?_
  refine awp_settle 78 11 (Nat.le_of_ble_eq_true rfl) ?_
  simp only [push_cast, ↓brB_true, ↓brB_false, ↓reduceIte, zA, zB, zC, zD, zE, zF, zG, zH, zI, reduceCtorEq]
  refine awp_seq' fun K hK => ?_
  refine awp_region tyOk tyPos [] rfl ?_
  all_goals simp only [push_cast, ↓brB_true, ↓brB_false, ↓reduceIte, zA, zB, zC, zD, zE, zF, zG, zH, zI, reduceCtorEq]
  all_goals repeat' (first | (apply brB_mk <;> (intro hg; (try simp only [push_cast] at hg))) | apply And.intro | (intro hg; (try simp only [push_cast] at hg)))
  all_goals first | exact gA | (exact getE_dPls (by omega)) | skip
  all_goals first | (refine hK _ ?_; clear hK K) | (simp only [push_cast]; done)
  refine awp_block ?_
  refine awp_loopU [9,10,11,12,13,14,15,16,18,19,23,24,25,26,27,28,29,30,31,32,33,34,35,36,37,38,39,40,41,42,43,44,45,46,47,48,49,50,51,52,53,54,55,56,57,58,59,60,61,62,63,64,65,66,67,68,69,70,71,72,73,74,75,76,77,78,79,80,81,82,83,84,85,86] [] (fun (i : Nat) => [(13, .int .i64 i), (11, .sl 176 [] 0 (stQ (usA a) rcF ⟨s, f.names⟩ i).length 78), (12, .bp 12 0)]) (fun i => [(12, [.sl 192 [] 0 i 2, .sl 193 [] 0 i 22, .sl 194 [] 0 i 2])]) (fun i => [(176, ⟨.ex, 78, dPls (stQ (usA a) rcF ⟨s, f.names⟩ i), none⟩), (192, ⟨.ex, 2, dI (ownG a rcF ⟨s, f.names⟩ i), none⟩), (193, ⟨.ex, 22, dII (nxG a rcF ⟨s, f.names⟩ i), none⟩), (194, ⟨.ex, 2, dI (prG a rcF (prF f) ⟨s, f.names⟩ i), none⟩)]) (fun i => i ≤ 256 ∧ i ≤ (stQ (usA a) rcF ⟨s, f.names⟩ i).length ∧ (stQ (usA a) rcF ⟨s, f.names⟩ i).length ≤ 256) (fun i => 257 - i) 0 ?_ ⟨by omega, Nat.zero_le _, (by show 1 ≤ 256; decide)⟩ ?_
  ·
    rw [show stQ (usA a) rcF ⟨s, f.names⟩ 0 = [⟨s, f.names⟩] from rfl, ownG_0, nxG_0, prG_0]
    refine cov_of rfl ?_ ?_ ?_ <;> simp only [covS, covL, push_cast, ↓brB_true, ↓brB_false, ↓reduceIte, zA, zB, zC, zD, zE, zF, zG, zH, zI, reduceCtorEq]
    all_goals first | rfl | exact ⟨rfl, rfl, rfl, rfl⟩ | skip
  · rintro i ⟨hi, hil, hsl⟩ KL0 hL0
    have hall := pl_all h1 h3 i
    have hq : QLn 1048576 (stQ (usA a) rcF ⟨s, f.names⟩ i) := ⟨by omega, fun p hp => by have := h3.small _ (hall p hp).2.2; omega⟩
    have hgl := fun k => gq_le hq k
    have ho1 := ownG_len (a := a) (rc := rcF) (p0 := ⟨s, f.names⟩) i
    have ho2 := nxG_len (a := a) (rc := rcF) (p0 := ⟨s, f.names⟩) i
    have ho3 := prG_len (a := a) (rc := rcF) (pr := (prF f)) (p0 := ⟨s, f.names⟩) i
    simp only [push_cast, ↓brB_true, ↓brB_false, ↓reduceIte, zA, zB, zC, zD, zE, zF, zG, zH, zI, reduceCtorEq]
    refine awp_seq' fun K2 hK2 => ?_
    refine awp_seq' fun K hK => ?_
    refine awp_region tyOk tyPos [] rfl ?_
    all_goals simp only [push_cast, ↓brB_true, ↓brB_false, ↓reduceIte, zA, zB, zC, zD, zE, zF, zG, zH, zI, reduceCtorEq]
    all_goals repeat' (first | (apply brB_mk <;> (intro hg; (try simp only [push_cast] at hg))) | apply And.intro | (intro hg; (try simp only [push_cast] at hg)))
    all_goals first | exact gA | (exact getE_dPls (by omega)) | skip
    all_goals first | (refine hK _ ?_; clear hK K) | (simp only [push_cast]; done)
    refine awp_cond rfl (fun hc => ?_) (fun hc => ?_) <;> (try simp only [push_cast] at hc)
    ·
      refine awp_skip ?_
      (try simp only [AThen, ABlk, reduceIte, zF]); refine hK2 _ ?_
      refine awp_seq' fun K3 hK3 => ?_
      refine awp_block ?_
      have hP := hall _ (gq_mem (k := i) (by omega))
      have hU : 1 ≤ (gl a.next (gq (stQ (usA a) rcF ⟨s, f.names⟩ i) i).at_.toNat).length ∧ (gl a.next (gq (stQ (usA a) rcF ⟨s, f.names⟩ i) i).at_.toNat).length ≤ 16 ∧ ∀ u ∈ (gl a.next (gq (stQ (usA a) rcF ⟨s, f.names⟩ i) i).at_.toNat), 0 ≤ u ∧ u < (a.owner.length : Int) := us_rg h1 ⟨hP.1, hP.2.1⟩
      have hpl := h3.small _ hP.2.2
      have hnl : (nextV (gq (stQ (usA a) rcF ⟨s, f.names⟩ i) i).record (gq (stQ (usA a) rcF ⟨s, f.names⟩ i) i).at_).length ≤ 4 := h3.small _ (h3.next _ hP.1 hP.2.1 hP.2.2)
      refine awp_seq' fun K hK => ?_
      refine awp_region tyOk tyPos [] rfl ?_
      all_goals simp only [push_cast, ↓brB_true, ↓brB_false, ↓reduceIte, zA, zB, zC, zD, zE, zF, zG, zH, zI, reduceCtorEq]
      all_goals repeat' (first | (apply brB_mk <;> (intro hg; (try simp only [push_cast] at hg))) | apply And.intro | (intro hg; (try simp only [push_cast] at hg)))
      all_goals first | exact gA | (exact getE_dPls (by omega)) | skip
      all_goals first | (refine hK _ ?_; clear hK K) | (simp only [push_cast]; done)
      refine awp_seq' fun K hK => ?_
      refine awp_regionX 35 2 rfl tyOk tyPos [] rfl ?_
      simp only [push_cast, ↓brB_true, ↓brB_false, ↓reduceIte, zA, zB, zC, zD, zE, zF, zG, zH, zI, reduceCtorEq]
      repeat' apply And.intro
      all_goals (try simp only [push_cast, ↓brB_true, ↓brB_false, ↓reduceIte, zA, zB, zC, zD, zE, zF, zG, zH, zI, reduceCtorEq])
      all_goals repeat' (first | (apply brB_mk <;> (intro hg; (try simp only [push_cast] at hg))) | (refine ⟨_, FamilyGame1_fn f hf (gq (stQ (usA a) rcF ⟨s, f.names⟩ i) i) (by omega) hP.2.2, ?_⟩; simp only [push_cast, ↓brB_true, ↓brB_false, ↓reduceIte, zA, zB, zC, zD, zE, zF, zG, zH, zI, reduceCtorEq]) | apply And.intro | (intro hg; (try simp only [push_cast] at hg)))
      all_goals first | exact gA | (exact getE_dPls (by omega)) | skip
      all_goals first | (refine hK _ ?_; clear hK K) | (simp only [push_cast]; done)
      refine awp_seq' fun K hK => ?_
      refine awp_region tyOk tyPos [] rfl ?_
      all_goals simp only [push_cast, ↓brB_true, ↓brB_false, ↓reduceIte, zA, zB, zC, zD, zE, zF, zG, zH, zI, reduceCtorEq]
      all_goals repeat' (first | (apply brB_mk <;> (intro hg; (try simp only [push_cast] at hg))) | apply And.intro | (intro hg; (try simp only [push_cast] at hg)))
      all_goals first | exact gA | (exact getE_dPls (by omega)) | skip
      all_goals first | (refine hK _ ?_; clear hK K) | (simp only [push_cast]; done)
      refine awp_seq' fun K4 hK4 => ?_
      refine awp_seq' fun K hK => ?_
      refine awp_region tyOk tyPos [] rfl ?_
      all_goals simp only [push_cast, ↓brB_true, ↓brB_false, ↓reduceIte, zA, zB, zC, zD, zE, zF, zG, zH, zI, reduceCtorEq]
      all_goals repeat' (first | (apply brB_mk <;> (intro hg; (try simp only [push_cast] at hg))) | apply And.intro | (intro hg; (try simp only [push_cast] at hg)))
      all_goals first | exact gA | (exact getE_dPls (by omega)) | skip
      all_goals first | (refine hK _ ?_; clear hK K) | (simp only [push_cast]; done)
      refine awp_block ?_
      refine awp_loopU [11,14,16,18,19,24,29,31,32,33,34,44,45,46,47,48,49,50,51,52,53,54,55,56,57,58,59,60,61,62,63,64,65,66,67,68] [256,224,225] (fun (k : Nat) => [(44, .int .i64 k), (11, .sl 176 [] 0 (rowT (nextV (gq (stQ (usA a) rcF ⟨s, f.names⟩ i) i).record (gq (stQ (usA a) rcF ⟨s, f.names⟩ i) i).at_) (gl a.next (gq (stQ (usA a) rcF ⟨s, f.names⟩ i) i).at_.toNat) (stQ (usA a) rcF ⟨s, f.names⟩ i) k).1.length 78), (16, .sl 256 [] 0 k 2), (14, .bp 14 0)]) (fun k => [(14, [.int .i64 (gq (stQ (usA a) rcF ⟨s, f.names⟩ i) i).at_, .sl 176 [i * 2 + 1] 0 (gq (stQ (usA a) rcF ⟨s, f.names⟩ i) i).record.length 2])]) (fun k => [(176, ⟨.ex, 78, dPls (rowT (nextV (gq (stQ (usA a) rcF ⟨s, f.names⟩ i) i).record (gq (stQ (usA a) rcF ⟨s, f.names⟩ i) i).at_) (gl a.next (gq (stQ (usA a) rcF ⟨s, f.names⟩ i) i).at_.toNat) (stQ (usA a) rcF ⟨s, f.names⟩ i) k).1, none⟩), (256, ⟨.ex, 2, dI (rowT (nextV (gq (stQ (usA a) rcF ⟨s, f.names⟩ i) i).record (gq (stQ (usA a) rcF ⟨s, f.names⟩ i) i).at_) (gl a.next (gq (stQ (usA a) rcF ⟨s, f.names⟩ i) i).at_.toNat) (stQ (usA a) rcF ⟨s, f.names⟩ i) k).2, none⟩)]) (fun k => k ≤ (gl a.next (gq (stQ (usA a) rcF ⟨s, f.names⟩ i) i).at_.toNat).length) (fun k => (gl a.next (gq (stQ (usA a) rcF ⟨s, f.names⟩ i) i).at_.toNat).length - k) 0 ?_ (Nat.zero_le _) ?_
      ·
        rw [rowT_0]
        refine cov_of rfl ?_ ?_ ?_ <;> simp only [covS, covL, push_cast, ↓brB_true, ↓brB_false, ↓reduceIte, zA, zB, zC, zD, zE, zF, zG, zH, zI, reduceCtorEq]
        all_goals first | rfl | skip
      · rintro k hk KL1 hL1
        have hrl := rowT_len (r := (nextV (gq (stQ (usA a) rcF ⟨s, f.names⟩ i) i).record (gq (stQ (usA a) rcF ⟨s, f.names⟩ i) i).at_)) (us := (gl a.next (gq (stQ (usA a) rcF ⟨s, f.names⟩ i) i).at_.toNat)) (ps := (stQ (usA a) rcF ⟨s, f.names⟩ i)) (k := k) hk
        have hQr : QLn 1048576 (rowT (nextV (gq (stQ (usA a) rcF ⟨s, f.names⟩ i) i).record (gq (stQ (usA a) rcF ⟨s, f.names⟩ i) i).at_) (gl a.next (gq (stQ (usA a) rcF ⟨s, f.names⟩ i) i).at_.toNat) (stQ (usA a) rcF ⟨s, f.names⟩ i) k).1 := ⟨by omega, fun p hp => by have := h3.small _ (pl_row h1 h3 (i := i) (k := k) (by omega) hk p hp).2.2; omega⟩
        have hx := ixQ_rg (sameQ (gi (gl a.next (gq (stQ (usA a) rcF ⟨s, f.names⟩ i) i).at_.toNat) k) (nextV (gq (stQ (usA a) rcF ⟨s, f.names⟩ i) i).record (gq (stQ (usA a) rcF ⟨s, f.names⟩ i) i).at_)) (rowT (nextV (gq (stQ (usA a) rcF ⟨s, f.names⟩ i) i).record (gq (stQ (usA a) rcF ⟨s, f.names⟩ i) i).at_) (gl a.next (gq (stQ (usA a) rcF ⟨s, f.names⟩ i) i).at_.toNat) (stQ (usA a) rcF ⟨s, f.names⟩ i) k).1
        simp only [push_cast, ↓brB_true, ↓brB_false, ↓reduceIte, zA, zB, zC, zD, zE, zF, zG, zH, zI, reduceCtorEq]
        refine awp_seq' fun K hK => ?_
        refine awp_region tyOk tyPos [] rfl ?_
        all_goals simp only [push_cast, ↓brB_true, ↓brB_false, ↓reduceIte, zA, zB, zC, zD, zE, zF, zG, zH, zI, reduceCtorEq]
        all_goals repeat' (first | (apply brB_mk <;> (intro hg; (try simp only [push_cast] at hg))) | apply And.intro | (intro hg; (try simp only [push_cast] at hg)))
        all_goals first | exact gA | (exact getE_dPls (by omega)) | skip
        all_goals first | (refine hK _ ?_; clear hK K) | (simp only [push_cast]; done)
        refine awp_seq' fun K5 hK5 => ?_
        refine awp_cond rfl (fun hc => ?_) (fun hc => ?_) <;> (try simp only [push_cast] at hc)
        ·
          refine awp_skip ?_
          (try simp only [AThen, ABlk, reduceIte, zF]); refine hK5 _ ?_
          refine awp_seq' fun K6 hK6 => ?_
          refine awp_block ?_
          refine awp_seq' fun K hK => ?_
          refine awp_region tyOk tyPos [] rfl ?_
          all_goals simp only [push_cast, ↓brB_true, ↓brB_false, ↓reduceIte, zA, zB, zC, zD, zE, zF, zG, zH, zI, reduceCtorEq]
          all_goals repeat' (first | (apply brB_mk <;> (intro hg; (try simp only [push_cast] at hg))) | apply And.intro | (intro hg; (try simp only [push_cast] at hg)))
          all_goals first | exact gA | (exact getE_dPls (by omega)) | skip
          all_goals first | (refine hK _ ?_; clear hK K) | (simp only [push_cast]; done)
          refine awp_seq' fun K hK => ?_
          refine awp_region tyOk tyPos [] rfl ?_
          all_goals refine aops_cut 4 fun K9 hK9 => ?_
          all_goals simp only [push_cast, ↓brB_true, ↓brB_false, ↓reduceIte, zA, zB, zC, zD, zE, zF, zG, zH, zI, reduceCtorEq]
          all_goals repeat' (first | (apply brB_mk <;> (intro hg; (try simp only [push_cast] at hg))) | (refine ⟨_, placeIn_fn (rowT (nextV (gq (stQ (usA a) rcF ⟨s, f.names⟩ i) i).record (gq (stQ (usA a) rcF ⟨s, f.names⟩ i) i).at_) (gl a.next (gq (stQ (usA a) rcF ⟨s, f.names⟩ i) i).at_.toNat) (stQ (usA a) rcF ⟨s, f.names⟩ i) k).1 hQr (gi (gl a.next (gq (stQ (usA a) rcF ⟨s, f.names⟩ i) i).at_.toNat) k) (nextV (gq (stQ (usA a) rcF ⟨s, f.names⟩ i) i).record (gq (stQ (usA a) rcF ⟨s, f.names⟩ i) i).at_) (by omega), ?_⟩; simp only [push_cast, ↓brB_true, ↓brB_false, ↓reduceIte, zA, zB, zC, zD, zE, zF, zG, zH, zI, reduceCtorEq]) | apply And.intro | (intro hg; (try simp only [push_cast] at hg)))
          all_goals first | exact gA | (exact getE_dPls (by omega)) | skip
          all_goals first | (refine hK9 _ ?_; clear hK9 K9) | (simp only [push_cast]; done)
          all_goals simp only [push_cast, ↓brB_true, ↓brB_false, ↓reduceIte, zA, zB, zC, zD, zE, zF, zG, zH, zI, reduceCtorEq]
          all_goals repeat' (first | (apply brB_mk <;> (intro hg; (try simp only [push_cast] at hg))) | (refine ⟨_, placeIn_fn (rowT (nextV (gq (stQ (usA a) rcF ⟨s, f.names⟩ i) i).record (gq (stQ (usA a) rcF ⟨s, f.names⟩ i) i).at_) (gl a.next (gq (stQ (usA a) rcF ⟨s, f.names⟩ i) i).at_.toNat) (stQ (usA a) rcF ⟨s, f.names⟩ i) k).1 hQr (gi (gl a.next (gq (stQ (usA a) rcF ⟨s, f.names⟩ i) i).at_.toNat) k) (nextV (gq (stQ (usA a) rcF ⟨s, f.names⟩ i) i).record (gq (stQ (usA a) rcF ⟨s, f.names⟩ i) i).at_) (by omega), ?_⟩; simp only [push_cast, ↓brB_true, ↓brB_false, ↓reduceIte, zA, zB, zC, zD, zE, zF, zG, zH, zI, reduceCtorEq]) | apply And.intro | (intro hg; (try simp only [push_cast] at hg)))
          all_goals first | exact gA | (exact getE_dPls (by omega)) | skip
          all_goals first | (refine hK _ ?_; clear hK K) | (simp only [push_cast]; done)
          refine awp_seq' fun K7 hK7 => ?_
          refine awp_seq' fun K hK => ?_
          refine awp_region tyOk tyPos [] rfl ?_
          all_goals simp only [push_cast, ↓brB_true, ↓brB_false, ↓reduceIte, zA, zB, zC, zD, zE, zF, zG, zH, zI, reduceCtorEq]
          all_goals repeat' (first | (apply brB_mk <;> (intro hg; (try simp only [push_cast] at hg))) | apply And.intro | (intro hg; (try simp only [push_cast] at hg)))
          all_goals first | exact gA | (exact getE_dPls (by omega)) | skip
          all_goals first | (refine hK _ ?_; clear hK K) | (simp only [push_cast]; done)
          refine awp_cond rfl (fun hc => ?_) (fun hc => ?_) <;> (try simp only [push_cast] at hc)
          ·
            refine awp_seq' fun K hK => ?_
            refine awp_region tyOk tyPos [] rfl ?_
            all_goals simp only [push_cast, ↓brB_true, ↓brB_false, ↓reduceIte, zA, zB, zC, zD, zE, zF, zG, zH, zI, reduceCtorEq]
            all_goals repeat' (first | (apply brB_mk <;> (intro hg; (try simp only [push_cast] at hg))) | apply And.intro | (intro hg; (try simp only [push_cast] at hg)))
            all_goals first | exact gA | (exact getE_dPls (by omega)) | skip
            all_goals first | (refine hK _ ?_; clear hK K) | (simp only [push_cast]; done)
            refine awp_regionM 7 14 1 1008 176 [176] tyOk tyPos ?_ rfl rfl rfl fun K9 hK9 => ?_
            · kernel_rfl
            all_goals simp only [push_cast, ↓brB_true, ↓brB_false, ↓reduceIte, zA, zB, zC, zD, zE, zF, zG, zH, zI, reduceCtorEq]
            all_goals repeat' (first | (apply brB_mk <;> (intro hg; (try simp only [push_cast] at hg))) | apply And.intro | (intro hg; (try simp only [push_cast] at hg)))
            all_goals first | exact gA | (exact getE_dPls (by omega)) | skip
            all_goals first | (refine hK9 _ ?_; clear hK9 K9) | (simp only [push_cast]; done)
            all_goals simp only [push_cast, ↓brB_true, ↓brB_false, ↓reduceIte, zA, zB, zC, zD, zE, zF, zG, zH, zI, reduceCtorEq]
            all_goals repeat' (first | (apply brB_mk <;> (intro hg; (try simp only [push_cast] at hg))) | apply And.intro | (intro hg; (try simp only [push_cast] at hg)))
            all_goals first | exact gA | (exact getE_dPls (by omega)) | skip
            (try simp only [AThen, ABlk, reduceIte, zF]); refine hK7 _ ?_
            refine awp_region tyOk tyPos [] rfl ?_
            all_goals simp only [push_cast, ↓brB_true, ↓brB_false, ↓reduceIte, zA, zB, zC, zD, zE, zF, zG, zH, zI, reduceCtorEq]
            all_goals repeat' (first | (apply brB_mk <;> (intro hg; (try simp only [push_cast] at hg))) | apply And.intro | (intro hg; (try simp only [push_cast] at hg)))
            all_goals first | exact gA | (exact getE_dPls (by omega)) | skip
            (try simp only [AThen, ABlk, reduceIte, zF]); refine hK6 _ ?_
            refine awp_region tyOk tyPos [] rfl ?_
            all_goals simp only [push_cast, ↓brB_true, ↓brB_false, ↓reduceIte, zA, zB, zC, zD, zE, zF, zG, zH, zI, reduceCtorEq]
            all_goals repeat' (first | (apply brB_mk <;> (intro hg; (try simp only [push_cast] at hg))) | apply And.intro | (intro hg; (try simp only [push_cast] at hg)))
            all_goals first | exact gA | (exact getE_dPls (by omega)) | skip
            refine hL1 _ ⟨k + 1, by omega, by omega, ?_⟩
            (try rw [List.take_of_length_le (l := (rowT (nextV (gq (stQ (usA a) rcF ⟨s, f.names⟩ i) i).record (gq (stQ (usA a) rcF ⟨s, f.names⟩ i) i).at_) (gl a.next (gq (stQ (usA a) rcF ⟨s, f.names⟩ i) i).at_.toNat) (stQ (usA a) rcF ⟨s, f.names⟩ i) k).2) (by omega)])
            rw [rowT_new (by omega) (by with_reducible assumption)]
            refine cov_of rfl ?_ ?_ ?_ <;> simp only [covS, covL, push_cast, ↓brB_true, ↓brB_false, ↓reduceIte, zA, zB, zC, zD, zE, zF, zG, zH, zI, reduceCtorEq]
            all_goals first | rfl | (rw [List.length_append]; rfl) | exact ⟨rfl, rfl⟩ | skip
          ·
            refine awp_skip ?_
            (try simp only [AThen, ABlk, reduceIte, zF]); refine hK7 _ ?_
            refine awp_region tyOk tyPos [] rfl ?_
            all_goals simp only [push_cast, ↓brB_true, ↓brB_false, ↓reduceIte, zA, zB, zC, zD, zE, zF, zG, zH, zI, reduceCtorEq]
            all_goals repeat' (first | (apply brB_mk <;> (intro hg; (try simp only [push_cast] at hg))) | apply And.intro | (intro hg; (try simp only [push_cast] at hg)))
            all_goals first | exact gA | (exact getE_dPls (by omega)) | skip
            (try simp only [AThen, ABlk, reduceIte, zF]); refine hK6 _ ?_
            refine awp_region tyOk tyPos [] rfl ?_
            all_goals simp only [push_cast, ↓brB_true, ↓brB_false, ↓reduceIte, zA, zB, zC, zD, zE, zF, zG, zH, zI, reduceCtorEq]
            all_goals repeat' (first | (apply brB_mk <;> (intro hg; (try simp only [push_cast] at hg))) | apply And.intro | (intro hg; (try simp only [push_cast] at hg)))
            all_goals first | exact gA | (exact getE_dPls (by omega)) | skip
            refine hL1 _ ⟨k + 1, by omega, by omega, ?_⟩
            (try rw [List.take_of_length_le (l := (rowT (nextV (gq (stQ (usA a) rcF ⟨s, f.names⟩ i) i).record (gq (stQ (usA a) rcF ⟨s, f.names⟩ i) i).at_) (gl a.next (gq (stQ (usA a) rcF ⟨s, f.names⟩ i) i).at_.toNat) (stQ (usA a) rcF ⟨s, f.names⟩ i) k).2) (by omega)])
            rw [rowT_old (by omega) (by with_reducible assumption)]
            refine cov_of rfl ?_ ?_ ?_ <;> simp only [covS, covL, push_cast, ↓brB_true, ↓brB_false, ↓reduceIte, zA, zB, zC, zD, zE, zF, zG, zH, zI, reduceCtorEq]
            all_goals first | rfl | (rw [List.length_append]; rfl) | exact ⟨rfl, rfl⟩ | skip
        ·
          refine awp_exit ?_
          have hkk : k = (gl a.next (gq (stQ (usA a) rcF ⟨s, f.names⟩ i) i).at_.toNat).length := by omega
          subst hkk
          (try simp only [AThen, ABlk, reduceIte, zF]); refine hK4 _ ?_
          refine awp_seq' fun K8 hK8 => ?_
          have hgi : gq (rowT (nextV (gq (stQ (usA a) rcF ⟨s, f.names⟩ i) i).record (gq (stQ (usA a) rcF ⟨s, f.names⟩ i) i).at_) (gl a.next (gq (stQ (usA a) rcF ⟨s, f.names⟩ i) i).at_.toNat) (stQ (usA a) rcF ⟨s, f.names⟩ i) (gl a.next (gq (stQ (usA a) rcF ⟨s, f.names⟩ i) i).at_.toNat).length).1 i = (gq (stQ (usA a) rcF ⟨s, f.names⟩ i) i) := rowT_gq (by omega) (Nat.le_refl _)
          have hrl9 := rowT_len (r := (nextV (gq (stQ (usA a) rcF ⟨s, f.names⟩ i) i).record (gq (stQ (usA a) rcF ⟨s, f.names⟩ i) i).at_)) (us := (gl a.next (gq (stQ (usA a) rcF ⟨s, f.names⟩ i) i).at_.toNat)) (ps := (stQ (usA a) rcF ⟨s, f.names⟩ i)) (k := (gl a.next (gq (stQ (usA a) rcF ⟨s, f.names⟩ i) i).at_.toNat).length) (Nat.le_refl _)
          refine awp_seq' fun K hK => ?_
          refine awp_region tyOk tyPos [] rfl ?_
          all_goals simp only [push_cast, ↓brB_true, ↓brB_false, ↓reduceIte, zA, zB, zC, zD, zE, zF, zG, zH, zI, reduceCtorEq]
          all_goals repeat' (first | (apply brB_mk <;> (intro hg; (try simp only [push_cast] at hg))) | apply And.intro | (intro hg; (try simp only [push_cast] at hg)))
          all_goals first | exact gA | (exact getE_dPls (by omega)) | skip
          all_goals first | (refine hK _ ?_; clear hK K) | (simp only [push_cast]; done)
          refine awp_cond rfl (fun hc => ?_) (fun hc => ?_) <;> (try simp only [push_cast] at hc)
          ·
            refine awp_seq' fun K hK => ?_
            refine awp_region tyOk tyPos [] rfl ?_
            all_goals simp only [push_cast, ↓brB_true, ↓brB_false, ↓reduceIte, zA, zB, zC, zD, zE, zF, zG, zH, zI, reduceCtorEq]
            all_goals repeat' (first | (apply brB_mk <;> (intro hg; (try simp only [push_cast] at hg))) | apply And.intro | (intro hg; (try simp only [push_cast] at hg)))
            all_goals first | exact gA | (exact getE_dPls (by omega)) | skip
            all_goals first | (refine hK _ ?_; clear hK K) | (simp only [push_cast]; done)
            refine awp_ret ?_
            (try simp only [AThen, ABlk])
            refine ⟨Or.inl rfl, ?_⟩
            simp only [resVars, resVar, push_cast, ↓brB_true, ↓brB_false, ↓reduceIte, zA, zB, zC, zD, zE, zF, zG, zH, zI, reduceCtorEq]
            refine ⟨_, ?_, hKA (okQ_no hi (by rw [stQ_s (by omega)]; show 256 < (rowT (nextV (gq (stQ (usA a) rcF ⟨s, f.names⟩ i) i).record (gq (stQ (usA a) rcF ⟨s, f.names⟩ i) i).at_) (gl a.next (gq (stQ (usA a) rcF ⟨s, f.names⟩ i) i).at_.toNat) (stQ (usA a) rcF ⟨s, f.names⟩ i) (gl a.next (gq (stQ (usA a) rcF ⟨s, f.names⟩ i) i).at_.toNat).length).1.length; omega))⟩
            simp only [push_cast, ↓brB_true, ↓brB_false, ↓reduceIte, zA, zB, zC, zD, zE, zF, zG, zH, zI, reduceCtorEq]
            all_goals first | exact ⟨trivial, trivial⟩ | skip
          ·
            refine awp_skip ?_
            (try simp only [AThen, ABlk, reduceIte, zF]); refine hK8 _ ?_
            have hSo : FnG Try.prog tyT 101 [.c (DI (List.take (gl a.next (gq (stQ (usA a) rcF ⟨s, f.names⟩ i) i).at_.toNat).length (rowT (nextV (gq (stQ (usA a) rcF ⟨s, f.names⟩ i) i).record (gq (stQ (usA a) rcF ⟨s, f.names⟩ i) i).at_) (gl a.next (gq (stQ (usA a) rcF ⟨s, f.names⟩ i) i).at_.toNat) (stQ (usA a) rcF ⟨s, f.names⟩ i) (gl a.next (gq (stQ (usA a) rcF ⟨s, f.names⟩ i) i).at_.toNat).length).2))] [0] [(0, 2, dI (sortI (rowT (nextV (gq (stQ (usA a) rcF ⟨s, f.names⟩ i) i).record (gq (stQ (usA a) rcF ⟨s, f.names⟩ i) i).at_) (gl a.next (gq (stQ (usA a) rcF ⟨s, f.names⟩ i) i).at_.toNat) (stQ (usA a) rcF ⟨s, f.names⟩ i) (gl a.next (gq (stQ (usA a) rcF ⟨s, f.names⟩ i) i).at_.toNat).length).2))] [] := by rw [List.take_of_length_le (l := (rowT (nextV (gq (stQ (usA a) rcF ⟨s, f.names⟩ i) i).record (gq (stQ (usA a) rcF ⟨s, f.names⟩ i) i).at_) (gl a.next (gq (stQ (usA a) rcF ⟨s, f.names⟩ i) i).at_.toNat) (stQ (usA a) rcF ⟨s, f.names⟩ i) (gl a.next (gq (stQ (usA a) rcF ⟨s, f.names⟩ i) i).at_.toNat).length).2) (by omega)]; exact Sort_fn _ (by omega)
            refine awp_seq' fun K hK => ?_
            refine awp_regionG1 74 [0] [(0, 2, dI (sortI (rowT (nextV (gq (stQ (usA a) rcF ⟨s, f.names⟩ i) i).record (gq (stQ (usA a) rcF ⟨s, f.names⟩ i) i).at_) (gl a.next (gq (stQ (usA a) rcF ⟨s, f.names⟩ i) i).at_.toNat) (stQ (usA a) rcF ⟨s, f.names⟩ i) (gl a.next (gq (stQ (usA a) rcF ⟨s, f.names⟩ i) i).at_.toNat).length).2))] tyOk tyPos [] rfl ?_
            simp only [push_cast, ↓brB_true, ↓brB_false, ↓reduceIte, zA, zB, zC, zD, zE, zF, zG, zH, zI, reduceCtorEq]
            all_goals repeat' (first | (apply brB_mk <;> (intro hg; (try simp only [push_cast] at hg))) | (refine ⟨_, hSo, ?_⟩; simp only [push_cast, ↓brB_true, ↓brB_false, ↓reduceIte, zA, zB, zC, zD, zE, zF, zG, zH, zI, reduceCtorEq]) | apply And.intro | (intro hg; (try simp only [push_cast] at hg)))
            all_goals first | exact gA | (exact getE_dPls (by omega)) | skip
            all_goals first | (refine hK _ ?_; clear hK K) | (simp only [push_cast]; done)
            have hPv : FnX Try.prog tyT 74 [.v (.agg [.int .i64 (gq (stQ (usA a) rcF ⟨s, f.names⟩ i) i).at_, DI (List.take (gq (stQ (usA a) rcF ⟨s, f.names⟩ i) i).record.length (gq (rowT (nextV (gq (stQ (usA a) rcF ⟨s, f.names⟩ i) i).record (gq (stQ (usA a) rcF ⟨s, f.names⟩ i) i).at_) (gl a.next (gq (stQ (usA a) rcF ⟨s, f.names⟩ i) i).at_.toNat) (stQ (usA a) rcF ⟨s, f.names⟩ i) (gl a.next (gq (stQ (usA a) rcF ⟨s, f.names⟩ i) i).at_.toNat).length).1 i).record)]), .ref (.lst 2 [DI f.names, DII f.sets])] [.c (.int .i64 (prioV f (gq (stQ (usA a) rcF ⟨s, f.names⟩ i) i).record (gq (stQ (usA a) rcF ⟨s, f.names⟩ i) i).at_))] := by rw [hgi, List.take_length]; exact FamilyGame2_fn f hf (gq (stQ (usA a) rcF ⟨s, f.names⟩ i) i) (by omega) hP.2.2
            have hsl9 := sortI_len (rowT (nextV (gq (stQ (usA a) rcF ⟨s, f.names⟩ i) i).record (gq (stQ (usA a) rcF ⟨s, f.names⟩ i) i).at_) (gl a.next (gq (stQ (usA a) rcF ⟨s, f.names⟩ i) i).at_.toNat) (stQ (usA a) rcF ⟨s, f.names⟩ i) (gl a.next (gq (stQ (usA a) rcF ⟨s, f.names⟩ i) i).at_.toNat).length).2
            have hWV : FnG Try.prog tyT 102 [.agg [DI (List.take i (ownG a rcF ⟨s, f.names⟩ i)), DII (List.take i (nxG a rcF ⟨s, f.names⟩ i)), DI (List.take i (prG a rcF (prF f) ⟨s, f.names⟩ i))], .c (.int .i64 (gi a.owner (gq (stQ (usA a) rcF ⟨s, f.names⟩ i) i).at_.toNat)), .c (.int .i64 (prioV f (gq (stQ (usA a) rcF ⟨s, f.names⟩ i) i).record (gq (stQ (usA a) rcF ⟨s, f.names⟩ i) i).at_)), .c (DI (List.take (gl a.next (gq (stQ (usA a) rcF ⟨s, f.names⟩ i) i).at_.toNat).length (sortI (rowT (nextV (gq (stQ (usA a) rcF ⟨s, f.names⟩ i) i).record (gq (stQ (usA a) rcF ⟨s, f.names⟩ i) i).at_) (gl a.next (gq (stQ (usA a) rcF ⟨s, f.names⟩ i) i).at_.toNat) (stQ (usA a) rcF ⟨s, f.names⟩ i) (gl a.next (gq (stQ (usA a) rcF ⟨s, f.names⟩ i) i).at_.toNat).length).2)))] [0, 1, 2, 48] [] [.agg [DI (ownG a rcF ⟨s, f.names⟩ i ++ [gi a.owner (gq (stQ (usA a) rcF ⟨s, f.names⟩ i) i).at_.toNat]), DII (nxG a rcF ⟨s, f.names⟩ i ++ [sortI (rowT (nextV (gq (stQ (usA a) rcF ⟨s, f.names⟩ i) i).record (gq (stQ (usA a) rcF ⟨s, f.names⟩ i) i).at_) (gl a.next (gq (stQ (usA a) rcF ⟨s, f.names⟩ i) i).at_.toNat) (stQ (usA a) rcF ⟨s, f.names⟩ i) (gl a.next (gq (stQ (usA a) rcF ⟨s, f.names⟩ i) i).at_.toNat).length).2]), DI (prG a rcF (prF f) ⟨s, f.names⟩ i ++ [prioV f (gq (stQ (usA a) rcF ⟨s, f.names⟩ i) i).record (gq (stQ (usA a) rcF ⟨s, f.names⟩ i) i).at_])]] := by rw [List.take_of_length_le (l := ownG a rcF ⟨s, f.names⟩ i) (by omega), List.take_of_length_le (l := nxG a rcF ⟨s, f.names⟩ i) (by omega), List.take_of_length_le (l := prG a rcF (prF f) ⟨s, f.names⟩ i) (by omega), List.take_of_length_le (l := sortI (rowT (nextV (gq (stQ (usA a) rcF ⟨s, f.names⟩ i) i).record (gq (stQ (usA a) rcF ⟨s, f.names⟩ i) i).at_) (gl a.next (gq (stQ (usA a) rcF ⟨s, f.names⟩ i) i).at_.toNat) (stQ (usA a) rcF ⟨s, f.names⟩ i) (gl a.next (gq (stQ (usA a) rcF ⟨s, f.names⟩ i) i).at_.toNat).length).2) (by omega)]; exact withVertex_fn (gmA a rcF (prF f) ⟨s, f.names⟩ i) ⟨⟨by show (ownG _ _ _ i).length ≤ _; omega, ⟨by show (nxG _ _ _ i).length ≤ _; omega, fun r hr => by have := nx_len9 h1 h3 (n := i) (st_open9 hil) r hr; omega⟩⟩, by show (prG _ _ _ _ i).length ≤ _; omega⟩ (gi a.owner (gq (stQ (usA a) rcF ⟨s, f.names⟩ i) i).at_.toNat) (prioV f (gq (stQ (usA a) rcF ⟨s, f.names⟩ i) i).record (gq (stQ (usA a) rcF ⟨s, f.names⟩ i) i).at_) (sortI (rowT (nextV (gq (stQ (usA a) rcF ⟨s, f.names⟩ i) i).record (gq (stQ (usA a) rcF ⟨s, f.names⟩ i) i).at_) (gl a.next (gq (stQ (usA a) rcF ⟨s, f.names⟩ i) i).at_.toNat) (stQ (usA a) rcF ⟨s, f.names⟩ i) (gl a.next (gq (stQ (usA a) rcF ⟨s, f.names⟩ i) i).at_.toNat).length).2) (by omega)
            refine awp_regionC false false 11 (actFE Try.prog tyT 2) [84] (fun _ _ _ h => actFE_act rfl h) (aCallG1 Try.prog tyT [0, 1, 2, 48] []) (fun _ _ _ _ _ _ _ _ _ h1 h2 h3 h4 => aCallG1_sound h1 h2 h3 h4) tyOk tyPos tyMix ?_ rfl rfl ?_
            · kernel_rfl
            intro E hE
            all_goals simp only [push_cast, ↓brB_true, ↓brB_false, ↓reduceIte, zA, zB, zC, zD, zE, zF, zG, zH, zI, reduceCtorEq]
            all_goals repeat' (first | (apply brB_mk <;> (intro hg; (try simp only [push_cast] at hg))) | (refine ⟨_, _, hPv, ?_⟩; (try simp only [push_cast, ↓brB_true, ↓brB_false, ↓reduceIte, zA, zB, zC, zD, zE, zF, zG, zH, zI, reduceCtorEq])) | (refine ⟨_, hWV, ?_⟩; simp only [push_cast, ↓brB_true, ↓brB_false, ↓reduceIte, zA, zB, zC, zD, zE, zF, zG, zH, zI, reduceCtorEq]) | apply And.intro | (intro hg; (try simp only [push_cast] at hg)))
            all_goals first | exact gA | (refine hE _ _ ?_ rfl ?_; kernel_rfl) | (exact getE_dPls (by omega)) | skip
            all_goals clear hE E
            all_goals simp only [push_cast, ↓brB_true, ↓brB_false, ↓reduceIte, zA, zB, zC, zD, zE, zF, zG, zH, zI, reduceCtorEq]
            all_goals repeat' (first | (apply brB_mk <;> (intro hg; (try simp only [push_cast] at hg))) | (refine ⟨_, _, hPv, ?_⟩; (try simp only [push_cast, ↓brB_true, ↓brB_false, ↓reduceIte, zA, zB, zC, zD, zE, zF, zG, zH, zI, reduceCtorEq])) | (refine ⟨_, hWV, ?_⟩; simp only [push_cast, ↓brB_true, ↓brB_false, ↓reduceIte, zA, zB, zC, zD, zE, zF, zG, zH, zI, reduceCtorEq]) | apply And.intro | (intro hg; (try simp only [push_cast] at hg)))
            all_goals first | exact gA | (exact getE_dPls (by omega)) | skip
            all_goals first | (refine hg _ _ ?_ ?_; kernel_rfl) | skip
            (try simp only [AThen, ABlk, reduceIte, zF]); refine hK3 _ ?_
            refine awp_settleB [.sl 2, .sl 22, .sl 2] 12 ?_
            simp only [push_cast, ↓brB_true, ↓brB_false, ↓reduceIte, zA, zB, zC, zD, zE, zF, zG, zH, zI, reduceCtorEq]
            refine awp_region tyOk tyPos [] rfl ?_
            all_goals simp only [push_cast, ↓brB_true, ↓brB_false, ↓reduceIte, zA, zB, zC, zD, zE, zF, zG, zH, zI, reduceCtorEq]
            all_goals repeat' (first | (apply brB_mk <;> (intro hg; (try simp only [push_cast] at hg))) | apply And.intro | (intro hg; (try simp only [push_cast] at hg)))
            all_goals first | exact gA | (exact getE_dPls (by omega)) | skip
            have hst : (stQ (usA a) rcF ⟨s, f.names⟩ (i + 1)) = (rowT (nextV (gq (stQ (usA a) rcF ⟨s, f.names⟩ i) i).record (gq (stQ (usA a) rcF ⟨s, f.names⟩ i) i).at_) (gl a.next (gq (stQ (usA a) rcF ⟨s, f.names⟩ i) i).at_.toNat) (stQ (usA a) rcF ⟨s, f.names⟩ i) (gl a.next (gq (stQ (usA a) rcF ⟨s, f.names⟩ i) i).at_.toNat).length).1 := stQ_s (by omega)
            refine hL0 _ ⟨i + 1, ⟨by omega, (by rw [hst]; omega), (by rw [hst]; omega)⟩, by omega, ?_⟩
            (try rw [List.take_of_length_le (l := ownG a rcF ⟨s, f.names⟩ i) (by omega)])
            (try rw [List.take_of_length_le (l := nxG a rcF ⟨s, f.names⟩ i) (by omega)])
            (try rw [List.take_of_length_le (l := prG a rcF (prF f) ⟨s, f.names⟩ i) (by omega)])
            rw [hst, ownG_s, nxG_s, prG_s, show plQ (usA a) rcF ⟨s, f.names⟩ i = (gq (stQ (usA a) rcF ⟨s, f.names⟩ i) i) from rfl, show nxQ (usA a) rcF ⟨s, f.names⟩ i = sortI (rowT (nextV (gq (stQ (usA a) rcF ⟨s, f.names⟩ i) i).record (gq (stQ (usA a) rcF ⟨s, f.names⟩ i) i).at_) (gl a.next (gq (stQ (usA a) rcF ⟨s, f.names⟩ i) i).at_.toNat) (stQ (usA a) rcF ⟨s, f.names⟩ i) (gl a.next (gq (stQ (usA a) rcF ⟨s, f.names⟩ i) i).at_.toNat).length).2 from rfl, show (prF f) (gq (stQ (usA a) rcF ⟨s, f.names⟩ i) i) = prioV f (gq (stQ (usA a) rcF ⟨s, f.names⟩ i) i).record (gq (stQ (usA a) rcF ⟨s, f.names⟩ i) i).at_ from rfl]
            refine cov_of rfl ?_ ?_ ?_ <;> simp only [covS, covL, push_cast, ↓brB_true, ↓brB_false, ↓reduceIte, zA, zB, zC, zD, zE, zF, zG, zH, zI, reduceCtorEq]
            all_goals first | rfl | exact ⟨rfl, rfl, rfl, rfl⟩ | (rw [List.length_append, List.length_append, List.length_append, ho1, ho2, ho3]; rfl) | skip
    ·
      refine awp_exit ?_
      (try simp only [AThen, ABlk, reduceIte, zF]); refine hK1 _ ?_
      refine awp_seq' fun K hK => ?_
      refine awp_region tyOk tyPos [] rfl ?_
      all_goals simp only [push_cast, ↓brB_true, ↓brB_false, ↓reduceIte, zA, zB, zC, zD, zE, zF, zG, zH, zI, reduceCtorEq]
      all_goals repeat' (first | (apply brB_mk <;> (intro hg; (try simp only [push_cast] at hg))) | apply And.intro | (intro hg; (try simp only [push_cast] at hg)))
      all_goals first | exact gA | (exact getE_dPls (by omega)) | skip
      all_goals first | (refine hK _ ?_; clear hK K) | (simp only [push_cast]; done)
      refine awp_ret ?_
      (try simp only [AThen, ABlk])
      refine ⟨Or.inl rfl, ?_⟩
      simp only [resVars, resVar, push_cast, ↓brB_true, ↓brB_false, ↓reduceIte, zA, zB, zC, zD, zE, zF, zG, zH, zI, reduceCtorEq]
      refine ⟨_, ?_, hKB i hi (by omega) hil⟩
      simp only [push_cast, ↓brB_true, ↓brB_false, ↓reduceIte, zA, zB, zC, zD, zE, zF, zG, zH, zI, reduceCtorEq]
      all_goals first | exact ⟨trivial, trivial⟩ | skip
end Go.Proofs.Ytklconkoamoabaa

namespace Go.Proofs.Ytklconkoamoabaa
open Nat renaming reduceMod → zA, reduceMul → zB, reduceDiv → zC, reduceAdd → zD, reduceSub → zE, reduceEqDiff → zF, reduceBEq → zG, reduceLT → zH, reduceLeDiff → zI
open Go.RowKit
set_option linter.unusedVariables false
set_option linter.unusedSimpArgs false

attribute [local irreducible] okQ stQ gmR plR
set_option maxRecDepth 20000 in
set_option maxHeartbeats 8000000 in
theorem FamilyGameI_fn (a : Ar) (ha : a.Ln 1048576) (f : Fm) (hf : f.Ln 1048576) (s : Int) : Fn Try.prog tyT 27 [.agg (dAr a), .agg (dFm f), .c (.int .i64 s)] [.agg (dPa (fgG a f s)), .c (.lst 78 (dPls (fgP a f s))), .c (.bool (fgB a f s))] := by
  have hno := ha.owner
  have hnn := ha.next.1
  unfold LnI at hno
  have hA := ArenaOkI_fn a ha
  have hF := isFamily_fn f hf (a.owner.length : Int)
  have hSz := size_fn a
  have hV := hasVertex_fn a s
  have hfn := hf.names
  unfold LnI at hfn
  unfold dAr at hA hSz hV
  unfold dFm at hF
  unfold dAr dFm dPa
  refine Fn_ofR (fn := Try.f27) (rs := [.cell 6 48, .tmp 7, .tmp 8]) tyOk tyPos Try.func27 (by kernel_rfl) rfl rfl (by rw [Try.ntmps27]; exact Nat.le_of_ble_eq_true rfl) rfl (by simp only [szA, List.mem_cons, List.not_mem_nil, or_false, forall_eq_or_imp, forall_eq, VT.cells, szL]; try decide) ?_
  rw [Try.ntmps27]
  simp only [push_cast, ↓brB_true, ↓brB_false, ↓reduceIte, zA, zB, zC, zD, zE, zF, zG, zH, zI, reduceCtorEq]
  refine awp_seq' fun K hK => ?_
  refine awp_region tyOk tyPos [] rfl ?_
  simp only [push_cast, ↓brB_true, ↓brB_false, ↓reduceIte, zA, zB, zC, zD, zE, zF, zG, zH, zI, reduceCtorEq]
  repeat' apply And.intro
  all_goals try exact gB
  all_goals first | (refine hK _ ?_; clear hK K) | (simp only [push_cast]; done)
  refine awp_seq' fun K1 hK1 => ?_
  refine awp_seq' fun K hK => ?_
  refine awp_regionD1 false tyOk tyPos tyMix ?_ rfl ?_
  · kernel_rfl
  intro E hE
  all_goals refine lexF_cut 2 (by decide) fun K9 hK9 => ?_
  all_goals simp only [push_cast, ↓brB_true, ↓brB_false, ↓reduceIte, zA, zB, zC, zD, zE, zF, zG, zH, zI, reduceCtorEq]
  all_goals repeat' (first | (apply brB_mk <;> (intro hg; (try simp only [push_cast] at hg))) | (refine ⟨_, hA, ?_⟩; simp only [push_cast, ↓brB_true, ↓brB_false, ↓reduceIte, zA, zB, zC, zD, zE, zF, zG, zH, zI, reduceCtorEq]) | apply And.intro | (intro hg; (try simp only [push_cast] at hg)))
  all_goals try exact gA
  all_goals first | (refine hK9 _ _ ?_; clear hK9 K9) | (simp only [push_cast]; done)
  all_goals refine lexF_cut 5 (by decide) fun K9 hK9 => ?_
  all_goals simp only [push_cast, ↓brB_true, ↓brB_false, ↓reduceIte, zA, zB, zC, zD, zE, zF, zG, zH, zI, reduceCtorEq]
  all_goals repeat' (first | (apply brB_mk <;> (intro hg; (try simp only [push_cast] at hg))) | (refine ⟨_, hSz, ?_⟩; simp only [push_cast, ↓brB_true, ↓brB_false, ↓reduceIte, zA, zB, zC, zD, zE, zF, zG, zH, zI, reduceCtorEq]) | apply And.intro | (intro hg; (try simp only [push_cast] at hg)))
  all_goals try exact gA
  all_goals first | (refine hK9 _ _ ?_; clear hK9 K9) | (simp only [push_cast]; done)
  all_goals refine lexF_cut 1 (by decide) fun K9 hK9 => ?_
  all_goals simp only [push_cast, ↓brB_true, ↓brB_false, ↓reduceIte, zA, zB, zC, zD, zE, zF, zG, zH, zI, reduceCtorEq]
  all_goals repeat' (first | (apply brB_mk <;> (intro hg; (try simp only [push_cast] at hg))) | (refine ⟨_, hF, ?_⟩; simp only [push_cast, ↓brB_true, ↓brB_false, ↓reduceIte, zA, zB, zC, zD, zE, zF, zG, zH, zI, reduceCtorEq]) | apply And.intro | (intro hg; (try simp only [push_cast] at hg)))
  all_goals try exact gA
  all_goals first | (refine hK9 _ _ ?_; clear hK9 K9) | (simp only [push_cast]; done)
  all_goals refine lexF_cut 6 (by decide) fun K9 hK9 => ?_
  all_goals simp only [push_cast, ↓brB_true, ↓brB_false, ↓reduceIte, zA, zB, zC, zD, zE, zF, zG, zH, zI, reduceCtorEq]
  all_goals repeat' (first | (apply brB_mk <;> (intro hg; (try simp only [push_cast] at hg))) | (refine ⟨_, hV, ?_⟩; simp only [push_cast, ↓brB_true, ↓brB_false, ↓reduceIte, zA, zB, zC, zD, zE, zF, zG, zH, zI, reduceCtorEq]) | apply And.intro | (intro hg; (try simp only [push_cast] at hg)))
  all_goals try exact gA
  all_goals first | (refine hK9 _ _ ?_; clear hK9 K9) | (simp only [push_cast]; done)
  all_goals simp only [push_cast, ↓brB_true, ↓brB_false, ↓reduceIte, zA, zB, zC, zD, zE, zF, zG, zH, zI, reduceCtorEq]
  all_goals repeat' (first | (apply brB_mk <;> (intro hg; (try simp only [push_cast] at hg))) | (refine ⟨_, hA, ?_⟩; simp only [push_cast, ↓brB_true, ↓brB_false, ↓reduceIte, zA, zB, zC, zD, zE, zF, zG, zH, zI, reduceCtorEq]) | (refine ⟨_, hSz, ?_⟩; simp only [push_cast, ↓brB_true, ↓brB_false, ↓reduceIte, zA, zB, zC, zD, zE, zF, zG, zH, zI, reduceCtorEq]) | (refine ⟨_, hF, ?_⟩; simp only [push_cast, ↓brB_true, ↓brB_false, ↓reduceIte, zA, zB, zC, zD, zE, zF, zG, zH, zI, reduceCtorEq]) | (refine ⟨_, hV, ?_⟩; simp only [push_cast, ↓brB_true, ↓brB_false, ↓reduceIte, zA, zB, zC, zD, zE, zF, zG, zH, zI, reduceCtorEq]) | apply And.intro | (intro hg; (try simp only [push_cast] at hg)))
  all_goals first | exact gA | (refine hE _ _ ?_ ?_; kernel_rfl) | skip
  all_goals clear hE E
  all_goals first | (refine hK _ ?_; clear hK K) | (simp only [push_cast]; done)
  all_goals refine awp_cond rfl (fun hc => ?_) (fun hc => ?_)
  all_goals (first | (cases hc; done) | skip)
  all_goals (try simp only [push_cast] at hc)
  all_goals try (
      refine awp_seq' fun K hK => ?_
      refine awp_region tyOk tyPos [] rfl ?_
      simp only [push_cast, ↓brB_true, ↓brB_false, ↓reduceIte, zA, zB, zC, zD, zE, zF, zG, zH, zI, reduceCtorEq]
      repeat' apply And.intro
      all_goals try exact gB
      all_goals first | (refine hK _ ?_; clear hK K) | (simp only [push_cast]; done)
      refine awp_ret ?_
      (try simp only [AThen, ABlk])
      refine ⟨Or.inl rfl, ?_⟩
      simp only [RetOk, resVars, resVar, push_cast, ↓brB_true, ↓brB_false, ↓reduceIte, zA, zB, zC, zD, zE, zF, zG, zH, zI, reduceCtorEq]
      obtain ⟨e1, e2, e3⟩ := fg_no1 (a := a) (f := f) (s := s) (by first | exact fgC_no1 (by with_reducible assumption) | exact fgC_no2 (by have hln9 := arenaB_len (a := a) (by with_reducible assumption); rw [famB_is (by omega)]; with_reducible assumption) | exact fgC_no3 (by omega))
      rw [e1, e2, e3]
      all_goals first | rfl | exact ⟨rfl, rfl⟩ | (simp [dI, dII, dPls]; done)
      done)
  refine awp_skip ?_
  (try simp only [AThen, ABlk, reduceIte, zF]); refine hK1 _ ?_
  have hC : fgC a f s = true := fgC_yes (by with_reducible assumption) (by have hln9 := arenaB_len (a := a) (by with_reducible assumption); rw [famB_is (by omega)]; with_reducible assumption) (by omega)
  obtain ⟨h1, h2, h3⟩ := fgC_facts hC
  have hln := arenaB_len h1
  refine awp_seq' fun K hK => ?_
  refine awp_regionC false false 9 (actFE Try.prog tyT 2) [33, 34] (fun _ _ _ h => actFE_act rfl h) (aCallI Try.prog tyT 6) (fun _ _ _ _ _ _ _ _ _ h1 h2 h3 h4 => aCallI_sound tyOk tyPos h1 h2 h3 h4) tyOk tyPos tyMix ?_ rfl rfl ?_
  · kernel_rfl
  intro E hE
  all_goals simp only [push_cast, ↓brB_true, ↓brB_false, ↓reduceIte, zA, zB, zC, zD, zE, zF, zG, zH, zI, reduceCtorEq]
  all_goals repeat' (first | (apply brB_mk <;> (intro hg; (try simp only [push_cast] at hg))) | apply And.intro | (intro hg; (try simp only [push_cast] at hg)))
  all_goals first | exact gA | (refine hE _ _ ?_ rfl ?_; kernel_rfl) | skip
  all_goals clear hE E
  refine aCallI_mk (fn := Try.f71) (rs := [.cell 8 48, .tmp 9, .tmp 10]) rfl rfl (by decide) rfl Try.func71 (by kernel_rfl) rfl rfl (by rw [Try.ntmps71]; exact Nat.le_of_ble_eq_true rfl) ?_
  rw [Try.ntmps71]
  simp only [push_cast, ↓brB_true, ↓brB_false, ↓reduceIte, zA, zB, zC, zD, zE, zF, zG, zH, zI, reduceCtorEq]
  refine awp_cov ?_ (placesGame_fam a ha f hf s ⟨h1, h3⟩ _ (fun hok9 => ?_) (fun i hi9 hn9 hil9 => ?_))
  · refine cov_of rfl ?_ ?_ ?_ <;> simp only [covS, covL, push_cast, ↓brB_true, ↓brB_false, ↓reduceIte, zA, zB, zC, zD, zE, zF, zG, zH, zI, reduceCtorEq]
  all_goals intro E hg
  all_goals (try simp only [push_cast, ↓brB_true, ↓brB_false, ↓reduceIte, zA, zB, zC, zD, zE, zF, zG, zH, zI, reduceCtorEq])
  all_goals repeat' (first | (apply brB_mk <;> (intro hg; (try simp only [push_cast] at hg))) | apply And.intro | (intro hg; (try simp only [push_cast] at hg)))
  all_goals try exact gA
  all_goals first | (refine hg _ _ ?_ ?_; kernel_rfl) | skip
  all_goals first | (refine hK _ ?_; clear hg E hK K) | (refine hK _ ?_) | (simp only [push_cast]; done)
  all_goals (
      refine awp_ret ?_
      (try simp only [AThen, ABlk])
      refine ⟨Or.inl rfl, ?_⟩
      simp only [RetOk, resVars, resVar, push_cast, ↓brB_true, ↓brB_false, ↓reduceIte, zA, zB, zC, zD, zE, zF, zG, zH, zI, reduceCtorEq]
      first
        | (obtain ⟨e1, e2, e3⟩ := fg_no2 (a := a) (f := f) (s := s) hok9
           rw [e1, e2, e3]
           all_goals first | rfl | exact ⟨rfl, rfl⟩ | (simp [dI, dII, dPls]; done))
        | (obtain ⟨e1, e2, e3⟩ := gmR_yes (a := a) (rc := rcF) (pr := prF f) (p0 := ⟨s, f.names⟩) (i := i) hC hi9 hn9 hil9
           unfold fgG fgP fgB
           rw [e1, e2, e3]
           simp only [gmA, ownG_len, nxG_len, prG_len]
           all_goals first | rfl | exact ⟨⟨⟨rfl, rfl⟩, ⟨rfl, rfl⟩, ⟨rfl, rfl⟩⟩, rfl, rfl⟩ | exact ⟨rfl, rfl⟩ | (simp; done)))
end Go.Proofs.Ytklconkoamoabaa
