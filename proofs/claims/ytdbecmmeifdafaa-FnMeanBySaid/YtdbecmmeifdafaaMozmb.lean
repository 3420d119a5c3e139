/- the means of all vertices: both sides -/
import Derived.Test.YtdbecmmeifdafaaMnzmb
namespace Go.Proofs.Ytdbecmmeifdafaa
open Nat renaming reduceMod → zA, reduceMul → zB, reduceDiv → zC, reduceAdd → zD, reduceSub → zE, reduceEqDiff → zF, reduceBEq → zG, reduceLT → zH, reduceLeDiff → zI
open Go.RowKit
set_option linter.unusedVariables false
set_option linter.unusedSimpArgs false

open MV (Gm)
theorem optB_1 (mx : Bool) (f : Nat → Int) : MV.optB mx f 1 = f 0 := rfl
theorem optB_up {mx : Bool} {f : Nat → Int} {k : Nat} (h : (mx = true ∧ f (k + 1) > MV.optB mx f (k + 1)) ∨ (mx = false ∧ f (k + 1) < MV.optB mx f (k + 1))) : MV.optB mx f (k + 2) = f (k + 1) := by
  rw [MV.optB_s, if_pos h]
theorem optB_no {mx : Bool} {f : Nat → Int} {k : Nat} (h : ¬ ((mx = true ∧ f (k + 1) > MV.optB mx f (k + 1)) ∨ (mx = false ∧ f (k + 1) < MV.optB mx f (k + 1)))) : MV.optB mx f (k + 2) = MV.optB mx f (k + 1) := by
  rw [MV.optB_s, if_neg h]
/-- The best so far, the first one taken ahead. -/
def bestK (w : Wt) (k v i : Nat) : Int := MV.optB (decide (gi w.a.owner v = 0)) (edgeV w k v) (max i 1)
theorem bestK_0 (w : Wt) (k v : Nat) : bestK w k v 0 = edgeV w k v 0 := rfl
theorem bestK_all {w : Wt} {k v : Nat} (h : 1 ≤ (gl w.a.next v).length) : bestK w k v (gl w.a.next v).length = (gmW w).pay (k + 1) v := by
  unfold bestK
  rw [pay_s, Nat.max_eq_left h]
theorem bestK_yes {w : Wt} {k v i : Nat} (hc : (gi w.a.owner v = 0 ∧ edgeV w k v i > bestK w k v i) ∨ (¬ gi w.a.owner v = 0 ∧ edgeV w k v i < bestK w k v i)) : bestK w k v (i + 1) = edgeV w k v i := by
  unfold bestK at hc ⊢
  cases i with
  | zero =>
    rw [show max 0 1 = 1 from rfl, optB_1] at hc
    omega
  | succ i =>
    rw [show max (i + 1) 1 = i + 1 from by omega] at hc
    rw [show max (i + 1 + 1) 1 = i + 2 from by omega]
    refine optB_up ?_
    by_cases h : gi w.a.owner v = 0
    · simp only [decide_eq_true h] at hc ⊢
      exact .inl ⟨trivial, by omega⟩
    · simp only [decide_eq_false h] at hc ⊢
      exact .inr ⟨trivial, by omega⟩
theorem bestK_no {w : Wt} {k v i : Nat} (hc : ¬ ((gi w.a.owner v = 0 ∧ edgeV w k v i > bestK w k v i) ∨ (¬ gi w.a.owner v = 0 ∧ edgeV w k v i < bestK w k v i))) : bestK w k v (i + 1) = bestK w k v i := by
  unfold bestK at hc ⊢
  cases i with
  | zero => rfl
  | succ i =>
    rw [show max (i + 1) 1 = i + 1 from by omega] at hc
    rw [show max (i + 1 + 1) 1 = i + 2 from by omega, show max (i + 1) 1 = i + 1 from by omega]
    refine optB_no fun h9 => hc ?_
    by_cases h : gi w.a.owner v = 0
    · simp only [decide_eq_true h] at h9 ⊢
      rcases h9 with h9 | h9
      · exact .inl ⟨h, h9.2⟩
      · cases h9.1
    · simp only [decide_eq_false h] at h9 ⊢
      rcases h9 with h9 | h9
      · cases h9.1
      · exact .inr ⟨h, h9.2⟩
theorem bestK_bd {w : Wt} (h : WMn w) {k v i : Nat} (hv : v < w.a.owner.length) (hi : i ≤ (gl w.a.next v).length) (hk : k ≤ 2048001) : -2048002000 ≤ bestK w k v i ∧ bestK w k v i ≤ 2048002000 := by
  have h1 := (h.sh.row v hv).2.1
  exact optB_bd (by omega) fun j hj => edge_bd h hv (by omega) hk
theorem play_no {o : Int} {f : Nat → Int} {z : List Int} {v i : Nat} (hi : i ≠ 0) (h3 : gi z v = MV.optB (decide (o = 0)) f i) (hc : ¬ decide (o = 0) = decide (f i > gi z v)) : gi z v = MV.optB (decide (o = 0)) f (i + 1) := by
  obtain ⟨k, rfl⟩ : ∃ k, i = k + 1 := ⟨i - 1, by omega⟩
  rw [h3] at hc ⊢
  generalize decide (o = 0) = mx at *
  rw [MV.optB_s, if_neg]
  rintro (⟨rfl, h2⟩ | ⟨rfl, h2⟩)
  · rw [decide_eq_true h2] at hc; exact hc rfl
  · rw [decide_eq_false (by omega)] at hc; exact hc rfl
theorem play_yes {o : Int} {f : Nat → Int} {z : List Int} {v i : Nat} (h3 : 1 ≤ i → gi z v = MV.optB (decide (o = 0)) f i) (hc : i = 0 ∨ decide (o = 0) = decide (f i > gi z v)) : f i = MV.optB (decide (o = 0)) f (i + 1) := by
  cases i with
  | zero => rfl
  | succ k =>
    have h4 := h3 (by omega)
    rcases hc with hc | hc
    · omega
    · rw [h4] at hc
      rw [MV.optB_s]
      cases hm : decide (o = 0) with
      | true =>
        rw [hm] at hc
        have := of_decide_eq_true hc.symm
        rw [if_pos (.inl ⟨rfl, this⟩)]
      | false =>
        rw [hm] at hc
        have := of_decide_eq_false hc.symm
        split
        · rfl
        · rename_i hn
          have : ¬ f (k + 1) < MV.optB false f (k + 1) := fun h => hn (.inr ⟨rfl, h⟩)
          omega
theorem set_keep {z : List Int} {v u : Nat} {x : Int} (h : u ≠ v) : gi (z.set v x) u = gi z u := by
  unfold gi
  rw [List.getD_eq_getElem?_getD, List.getElem?_set_ne (Ne.symm h), List.getD_eq_getElem?_getD]
theorem set_same {z : List Int} {v : Nat} {x : Int} (h : v < z.length) : gi (z.set v x) v = x := by
  unfold gi
  rw [List.getD_eq_getElem?_getD, List.getElem?_set_self h]
  rfl
/-- The numbers that rounding wants to know. -/
theorem near_val {w : Wt} (h : WMn w) {v : Nat} (hv : v < w.a.owner.length) (k : Nat) : NearM (gi (payL w k) v) k w.a.owner.length (mostW w) ((gmW w).val w.a.owner.length v).1 ((gmW w).val w.a.owner.length v).2 := by
  have h1 := Gm.val_ok h.game hv
  have h2 := Gm.val_ge h.game (by have := h.mW; omega) hv k
  have h3 := Gm.val_le h.game (by have := h.mW; omega) hv k
  have hn1 := h.sh.n1
  have hn8 := h.n8
  rw [payL_gi hv]
  exact ⟨by omega, by omega, h.mW.1, h.mW.2, h1.1, h1.2.1, by omega, by omega⟩
theorem steps_nat {w : Wt} (h : WMn w) : ∃ T : Nat, (T : Int) = 4 * (w.a.owner.length * w.a.owner.length * w.a.owner.length * mostW w) ∧ T ≤ 2048000 := by
  have hb := nW_bd (n := w.a.owner.length) (W := mostW w) (by have := h.sh.n1; omega) (by have := h.n8; omega) h.mW.1 h.mW.2
  refine ⟨(4 * (w.a.owner.length * w.a.owner.length * w.a.owner.length * mostW w) : Int).toNat, by omega, by omega⟩
set_option maxRecDepth 20000 in
set_option maxHeartbeats 8000000 in
theorem l21Play_fn (w : Wt) (ha : w.Ln 1048576) (hw : WMn w) (T : Nat) (hT : T ≤ 2048001) : Fn Try.prog tyT 117 [.agg (dWt w), .c (.int .i64 T)] [.c (DI (payL w T))] := by
  have hn1 := hw.sh.n1
  have hn8 := hw.n8
  have hcl := hw.sh.cl
  have hnl := hw.sh.nl
  have hno := ha.a.owner
  unfold LnI at hno
  have hr : ∀ v, (gl w.a.next v).length ≤ 1048576 := fun v => gl_le ha.a.next v
  have hcr : ∀ v, (gl w.cost v).length ≤ 1048576 := fun v => gl_le ha.cost v
  have hrow := hw.sh.row
  have hto := hw.sh.to
  have hc1 := hw.c1
  have hown := hw.sh.own
  unfold dWt
  refine Fn_of (fn := Try.f117) (ts := [4]) Try.func117 (by kernel_rfl) rfl rfl (by rw [Try.ntmps117]; exact Nat.le_of_ble_eq_true rfl) rfl (by simp only [szA, List.mem_cons, List.not_mem_nil, or_false, forall_eq_or_imp, forall_eq, VT.cells, szL]; try decide) ?_
  rw [Try.ntmps117]
  simp only [push_cast, ↓brB_true, ↓brB_false, ↓reduceIte, zA, zB, zC, zD, zE, zF, zG, zH, zI, reduceCtorEq]
  refine awp_seq' fun K hK => ?_
  refine awp_region tyOk tyPos [] rfl ?_
  all_goals simp only [push_cast, ↓brB_true, ↓brB_false, ↓reduceIte, zA, zB, zC, zD, zE, zF, zG, zH, zI, reduceCtorEq]
  all_goals repeat' (first | (apply brB_mk <;> (intro hg; (try simp only [push_cast] at hg))) | apply And.intro | (intro hg; (try simp only [push_cast] at hg)))
  all_goals first | exact True.intro | exact rfl | contradiction | omega | with_reducible assumption | (exact getE_dII (by omega)) | (have h8 := hwr (by omega); have h7 := hedp (by omega); have h6 := hed (by omega); omega) | (have h9 := hto v (by omega) i (by omega); have h8 := hwr (by omega); simp only [payL_len]; omega) | (have h9 := hto v (by omega) i (by omega); have h8 := hwr (by omega); omega) | skip
  all_goals first | (refine hK _ ?_; clear hK K) | (simp only [push_cast]; done)
  refine awp_seq' fun K hK => ?_
  refine awp_region tyOk tyPos [] rfl ?_
  all_goals simp only [push_cast, ↓brB_true, ↓brB_false, ↓reduceIte, zA, zB, zC, zD, zE, zF, zG, zH, zI, reduceCtorEq]
  all_goals repeat' (first | (apply brB_mk <;> (intro hg; (try simp only [push_cast] at hg))) | apply And.intro | (intro hg; (try simp only [push_cast] at hg)))
  all_goals first | exact True.intro | exact rfl | contradiction | omega | with_reducible assumption | (exact getE_dII (by omega)) | (have h8 := hwr (by omega); have h7 := hedp (by omega); have h6 := hed (by omega); omega) | (have h9 := hto v (by omega) i (by omega); have h8 := hwr (by omega); simp only [payL_len]; omega) | (have h9 := hto v (by omega) i (by omega); have h8 := hwr (by omega); omega) | skip
  all_goals first | (refine hK _ ?_; clear hK K) | (simp only [push_cast]; done)
  refine awp_seq' fun K hK => ?_
  refine awp_region tyOk tyPos [] rfl ?_
  all_goals simp only [push_cast, ↓brB_true, ↓brB_false, ↓reduceIte, zA, zB, zC, zD, zE, zF, zG, zH, zI, reduceCtorEq]
  all_goals repeat' (first | (apply brB_mk <;> (intro hg; (try simp only [push_cast] at hg))) | apply And.intro | (intro hg; (try simp only [push_cast] at hg)))
  all_goals first | exact True.intro | exact rfl | contradiction | omega | with_reducible assumption | (exact getE_dII (by omega)) | (have h8 := hwr (by omega); have h7 := hedp (by omega); have h6 := hed (by omega); omega) | (have h9 := hto v (by omega) i (by omega); have h8 := hwr (by omega); simp only [payL_len]; omega) | (have h9 := hto v (by omega) i (by omega); have h8 := hwr (by omega); omega) | skip
  all_goals first | (refine hK _ ?_; clear hK K) | (simp only [push_cast]; done)
  refine awp_seq' fun K1 hK1 => ?_
  refine awp_block ?_
  refine awp_loopU [1,6,7,8,9,10,16,17,18,19,20,21,22,23,24,25,26,27,28,29,30,31,32,33,34,35,36,37,38,39,40,41,42,43,44,45,46,47,48,49,50,51,52,53,54,55,56,57,58,59,60,61,62,63,64,65,66,67,68,69,70,71,72,73,74,75,76,77,78,79,80] [] (fun (k : Nat) => [(1, .int .i64 ((T : Int) - k)), (6, .sl 96 [] 0 w.a.owner.length 2)]) (fun k => []) (fun k => [(96, ⟨.ex, 2, dI (payL w k), none⟩)]) (fun k => k ≤ T) (fun k => T - k) 0 ?_ (by omega) ?_
  ·
    rw [payL_0, show ((T : Int) - ((0 : Nat) : Int)) = (T : Int) from by omega, ← hcl]
    refine cov_of rfl ?_ ?_ ?_ <;> simp only [covS, covL, push_cast, ↓brB_true, ↓brB_false, ↓reduceIte, zA, zB, zC, zD, zE, zF, zG, zH, zI, reduceCtorEq]
  · rintro k hk KL0 hL0
    have hpl := payL_len w k
    simp only [push_cast, ↓brB_true, ↓brB_false, ↓reduceIte, zA, zB, zC, zD, zE, zF, zG, zH, zI, reduceCtorEq]
    refine awp_seq' fun K2 hK2 => ?_
    refine awp_seq' fun K hK => ?_
    refine awp_region tyOk tyPos [] rfl ?_
    all_goals simp only [push_cast, ↓brB_true, ↓brB_false, ↓reduceIte, zA, zB, zC, zD, zE, zF, zG, zH, zI, reduceCtorEq]
    all_goals repeat' (first | (apply brB_mk <;> (intro hg; (try simp only [push_cast] at hg))) | apply And.intro | (intro hg; (try simp only [push_cast] at hg)))
    all_goals first | exact True.intro | exact rfl | contradiction | omega | with_reducible assumption | (exact getE_dII (by omega)) | (have h8 := hwr (by omega); have h7 := hedp (by omega); have h6 := hed (by omega); omega) | (have h9 := hto v (by omega) i (by omega); have h8 := hwr (by omega); simp only [payL_len]; omega) | (have h9 := hto v (by omega) i (by omega); have h8 := hwr (by omega); omega) | skip
    all_goals first | (refine hK _ ?_; clear hK K) | (simp only [push_cast]; done)
    refine awp_cond rfl (fun hc => ?_) (fun hc => ?_) <;> (try simp only [push_cast] at hc)
    ·
      refine awp_skip ?_
      (try simp only [AThen, ABlk, reduceIte, zF]); refine hK2 _ ?_
      refine awp_seq' fun K3 hK3 => ?_
      refine awp_block ?_
      refine awp_seq' fun K hK => ?_
      refine awp_region tyOk tyPos [] rfl ?_
      all_goals simp only [push_cast, ↓brB_true, ↓brB_false, ↓reduceIte, zA, zB, zC, zD, zE, zF, zG, zH, zI, reduceCtorEq]
      all_goals repeat' (first | (apply brB_mk <;> (intro hg; (try simp only [push_cast] at hg))) | apply And.intro | (intro hg; (try simp only [push_cast] at hg)))
      all_goals first | exact True.intro | exact rfl | contradiction | omega | with_reducible assumption | (exact getE_dII (by omega)) | (have h8 := hwr (by omega); have h7 := hedp (by omega); have h6 := hed (by omega); omega) | (have h9 := hto v (by omega) i (by omega); have h8 := hwr (by omega); simp only [payL_len]; omega) | (have h9 := hto v (by omega) i (by omega); have h8 := hwr (by omega); omega) | skip
      all_goals first | (refine hK _ ?_; clear hK K) | (simp only [push_cast]; done)
      refine awp_seq' fun K4 hK4 => ?_
      refine awp_seq' fun K hK => ?_
      refine awp_region tyOk tyPos [] rfl ?_
      all_goals simp only [push_cast, ↓brB_true, ↓brB_false, ↓reduceIte, zA, zB, zC, zD, zE, zF, zG, zH, zI, reduceCtorEq]
      all_goals repeat' (first | (apply brB_mk <;> (intro hg; (try simp only [push_cast] at hg))) | apply And.intro | (intro hg; (try simp only [push_cast] at hg)))
      all_goals first | exact True.intro | exact rfl | contradiction | omega | with_reducible assumption | (exact getE_dII (by omega)) | (have h8 := hwr (by omega); have h7 := hedp (by omega); have h6 := hed (by omega); omega) | (have h9 := hto v (by omega) i (by omega); have h8 := hwr (by omega); simp only [payL_len]; omega) | (have h9 := hto v (by omega) i (by omega); have h8 := hwr (by omega); omega) | skip
      all_goals first | (refine hK _ ?_; clear hK K) | (simp only [push_cast]; done)
      refine awp_block ?_
      refine awp_loopU [7,8,9,10,22,23,24,25,26,27,28,29,30,31,32,33,34,35,36,37,38,39,40,41,42,43,44,45,46,47,48,49,50,51,52,53,54,55,56,57,58,59,60,61,62,63,64,65,66,67,68,69,70,71,72,73,74,75,76,77,78,79] [112] (fun (u : Nat × List Int) => [(8, .int .i64 u.1), (7, .sl 112 [] 0 w.a.owner.length 2)]) (fun u => []) (fun u => [(112, ⟨.ex, 2, dI u.2, none⟩)]) (fun u => u.1 ≤ w.a.owner.length ∧ u.2.length = w.a.owner.length ∧ ∀ u9, u9 < u.1 → gi u.2 u9 = (gmW w).pay (k + 1) u9) (fun u => w.a.owner.length - u.1) (0, List.replicate w.a.owner.length 0) ?_ ⟨by omega, by simp, fun u9 h => by simp only at h; omega⟩ ?_
      ·
        rw [← hcl]
        refine cov_of rfl ?_ ?_ ?_ <;> simp only [covS, covL, push_cast, ↓brB_true, ↓brB_false, ↓reduceIte, zA, zB, zC, zD, zE, zF, zG, zH, zI, reduceCtorEq]
      · rintro ⟨v, z⟩ ⟨hv, hz, hall⟩ KL1 hL1
        simp only at hv hz hall
        have hwr : v < w.a.owner.length → _ := fun h => hrow v h
        have hwo : v < w.a.owner.length → _ := fun h => hown v h
        have hrv := hr v
        have hcv := hcr v
        simp only [push_cast, ↓brB_true, ↓brB_false, ↓reduceIte, zA, zB, zC, zD, zE, zF, zG, zH, zI, reduceCtorEq]
        refine awp_seq' fun K5 hK5 => ?_
        refine awp_seq' fun K hK => ?_
        refine awp_region tyOk tyPos [] rfl ?_
        all_goals simp only [push_cast, ↓brB_true, ↓brB_false, ↓reduceIte, zA, zB, zC, zD, zE, zF, zG, zH, zI, reduceCtorEq]
        all_goals repeat' (first | (apply brB_mk <;> (intro hg; (try simp only [push_cast] at hg))) | apply And.intro | (intro hg; (try simp only [push_cast] at hg)))
        all_goals first | exact True.intro | exact rfl | contradiction | omega | with_reducible assumption | (exact getE_dII (by omega)) | (have h8 := hwr (by omega); have h7 := hedp (by omega); have h6 := hed (by omega); omega) | (have h9 := hto v (by omega) i (by omega); have h8 := hwr (by omega); simp only [payL_len]; omega) | (have h9 := hto v (by omega) i (by omega); have h8 := hwr (by omega); omega) | skip
        all_goals first | (refine hK _ ?_; clear hK K) | (simp only [push_cast]; done)
        refine awp_cond rfl (fun hc => ?_) (fun hc => ?_) <;> (try simp only [push_cast] at hc)
        ·
          refine awp_skip ?_
          (try simp only [AThen, ABlk, reduceIte, zF]); refine hK5 _ ?_
          refine awp_seq' fun K6 hK6 => ?_
          refine awp_block ?_
          refine awp_seq' fun K hK => ?_
          refine awp_region tyOk tyPos [] rfl ?_
          all_goals simp only [push_cast, ↓brB_true, ↓brB_false, ↓reduceIte, zA, zB, zC, zD, zE, zF, zG, zH, zI, reduceCtorEq]
          all_goals repeat' (first | (apply brB_mk <;> (intro hg; (try simp only [push_cast] at hg))) | apply And.intro | (intro hg; (try simp only [push_cast] at hg)))
          all_goals first | exact True.intro | exact rfl | contradiction | omega | with_reducible assumption | (exact getE_dII (by omega)) | (have h8 := hwr (by omega); have h7 := hedp (by omega); have h6 := hed (by omega); omega) | (have h9 := hto v (by omega) i (by omega); have h8 := hwr (by omega); simp only [payL_len]; omega) | (have h9 := hto v (by omega) i (by omega); have h8 := hwr (by omega); omega) | skip
          all_goals first | (refine hK _ ?_; clear hK K) | (simp only [push_cast]; done)
          refine awp_block ?_
          refine awp_loopU [9,10,27,28,29,30,31,32,33,34,35,36,37,38,39,40,41,42,43,44,45,46,47,48,49,50,51,52,53,54,55,56,57,58,59,60,61,62,63,64,65,66,67,68,69,70,71,72,73,74,75,76,77,78,79] [112] (fun (u : Nat × List Int) => [(9, .int .i64 u.1)]) (fun u => []) (fun u => [(112, ⟨.ex, 2, dI u.2, none⟩)]) (fun u => u.1 ≤ (gl w.a.next v).length ∧ u.2.length = w.a.owner.length ∧ (∀ u9, u9 < v → gi u.2 u9 = gi z u9) ∧ (1 ≤ u.1 → gi u.2 v = MV.optB (decide (gi w.a.owner v = 0)) (edgeV w k v) u.1)) (fun u => (gl w.a.next v).length - u.1) (0, z) ?_ ⟨by omega, by omega, fun u9 h => rfl, fun h => by simp only at h; omega⟩ ?_
          ·
            refine cov_of rfl ?_ ?_ ?_ <;> simp only [covS, covL, push_cast, ↓brB_true, ↓brB_false, ↓reduceIte, zA, zB, zC, zD, zE, zF, zG, zH, zI, reduceCtorEq]
          · rintro ⟨i, z2⟩ ⟨hi, hzl, hz2, hz3⟩ KL2 hL2
            simp only at hi hzl hz2 hz3
            have hwi : i < (gl w.a.next v).length → _ := fun h => hto v (by omega) i h
            have hed : i < (gl w.a.next v).length → _ := fun h => edge_bd hw (k := k) (by omega) h (by omega)
            have hpg : i < (gl w.a.next v).length → gi (payL w k) (gi (gl w.a.next v) i).toNat = (gmW w).pay k (gi (gl w.a.next v) i).toNat := fun h => payL_gi (by have := hwi h; omega)
            have hedp : i < (gl w.a.next v).length → gi (gl w.cost v) i + gi (payL w k) (gi (gl w.a.next v) i).toNat = edgeV w k v i := fun h => by unfold edgeV; rw [hpg h]
            simp only [push_cast, ↓brB_true, ↓brB_false, ↓reduceIte, zA, zB, zC, zD, zE, zF, zG, zH, zI, reduceCtorEq]
            refine awp_seq' fun K7 hK7 => ?_
            refine awp_seq' fun K hK => ?_
            refine awp_region tyOk tyPos [] rfl ?_
            all_goals simp only [push_cast, ↓brB_true, ↓brB_false, ↓reduceIte, zA, zB, zC, zD, zE, zF, zG, zH, zI, reduceCtorEq]
            all_goals repeat' (first | (apply brB_mk <;> (intro hg; (try simp only [push_cast] at hg))) | apply And.intro | (intro hg; (try simp only [push_cast] at hg)))
            all_goals first | exact True.intro | exact rfl | contradiction | omega | with_reducible assumption | (exact getE_dII (by omega)) | (have h8 := hwr (by omega); have h7 := hedp (by omega); have h6 := hed (by omega); omega) | (have h9 := hto v (by omega) i (by omega); have h8 := hwr (by omega); simp only [payL_len]; omega) | (have h9 := hto v (by omega) i (by omega); have h8 := hwr (by omega); omega) | skip
            all_goals first | (refine hK _ ?_; clear hK K) | (simp only [push_cast]; done)
            refine awp_cond rfl (fun hc => ?_) (fun hc => ?_) <;> (try simp only [push_cast] at hc)
            ·
              refine awp_skip ?_
              (try simp only [AThen, ABlk, reduceIte, zF]); refine hK7 _ ?_
              refine awp_seq' fun K8 hK8 => ?_
              refine awp_block ?_
              refine awp_seq' fun K hK => ?_
              refine awp_regionD1 false tyOk tyPos tyMix ?_ rfl ?_
              · kernel_rfl
              intro E hE
              all_goals simp only [push_cast, ↓brB_true, ↓brB_false, ↓reduceIte, zA, zB, zC, zD, zE, zF, zG, zH, zI, reduceCtorEq]
              all_goals repeat' (first | (apply brB_mk <;> (intro hg; (try simp only [push_cast] at hg))) | apply And.intro | (intro hg; (try simp only [push_cast] at hg)))
              all_goals first | exact True.intro | exact rfl | contradiction | omega | with_reducible assumption | (refine hE _ _ ?_ ?_; kernel_rfl) | (exact getE_dII (by omega)) | (have h8 := hwr (by omega); have h7 := hedp (by omega); have h6 := hed (by omega); omega) | (have h9 := hto v (by omega) i (by omega); have h8 := hwr (by omega); simp only [payL_len]; omega) | (have h9 := hto v (by omega) i (by omega); have h8 := hwr (by omega); omega) | skip
              all_goals clear hE E
              all_goals first | (refine hK _ ?_; clear hK K) | (simp only [push_cast]; done)
              rw [hedp (by have := hwr (by omega); omega)]
              refine awp_seq' fun K hK => ?_
              refine awp_regionD1 false tyOk tyPos tyMix ?_ rfl ?_
              · kernel_rfl
              intro E hE
              all_goals simp only [push_cast, ↓brB_true, ↓brB_false, ↓reduceIte, zA, zB, zC, zD, zE, zF, zG, zH, zI, reduceCtorEq]
              all_goals repeat' (first | (apply brB_mk <;> (intro hg; (try simp only [push_cast] at hg))) | apply And.intro | (intro hg; (try simp only [push_cast] at hg)))
              all_goals first | exact True.intro | exact rfl | contradiction | omega | with_reducible assumption | (refine hE _ _ ?_ ?_; kernel_rfl) | (exact getE_dII (by omega)) | (have h8 := hwr (by omega); have h7 := hedp (by omega); have h6 := hed (by omega); omega) | (have h9 := hto v (by omega) i (by omega); have h8 := hwr (by omega); simp only [payL_len]; omega) | (have h9 := hto v (by omega) i (by omega); have h8 := hwr (by omega); omega) | skip
              all_goals clear hE E
              all_goals first | (refine hK _ ?_; clear hK K) | (simp only [push_cast]; done)
              all_goals refine awp_cond rfl (fun hc => ?_) (fun hc => ?_)
              all_goals (first | (cases hc; done) | skip)
              all_goals (try simp only [push_cast] at hc)
              all_goals first
                | (
                    refine awp_skip ?_
                    (try simp only [AThen, ABlk, reduceIte, zF]); refine hK8 _ ?_
                    refine awp_region tyOk tyPos [] rfl ?_
                    all_goals simp only [push_cast, ↓brB_true, ↓brB_false, ↓reduceIte, zA, zB, zC, zD, zE, zF, zG, zH, zI, reduceCtorEq]
                    all_goals repeat' (first | (apply brB_mk <;> (intro hg; (try simp only [push_cast] at hg))) | apply And.intro | (intro hg; (try simp only [push_cast] at hg)))
                    all_goals first | exact True.intro | exact rfl | contradiction | omega | with_reducible assumption | (exact getE_dII (by omega)) | (have h8 := hwr (by omega); have h7 := hedp (by omega); have h6 := hed (by omega); omega) | (have h9 := hto v (by omega) i (by omega); have h8 := hwr (by omega); simp only [payL_len]; omega) | (have h9 := hto v (by omega) i (by omega); have h8 := hwr (by omega); omega) | skip
                    refine hL2 _ ⟨(i + 1, z2), ⟨by simp only; have := hwr (by omega); omega, by simp only; omega, fun u9 h => hz2 u9 h, fun _ => play_no (by omega) (hz3 (by omega)) hc⟩, by simp only; omega, ?_⟩
                    refine cov_of rfl ?_ ?_ ?_ <;> simp only [covS, covL, push_cast, ↓brB_true, ↓brB_false, ↓reduceIte, zA, zB, zC, zD, zE, zF, zG, zH, zI, reduceCtorEq]
                    done)
                | (
                    refine awp_region tyOk tyPos [] rfl ?_
                    all_goals simp only [push_cast, ↓brB_true, ↓brB_false, ↓reduceIte, zA, zB, zC, zD, zE, zF, zG, zH, zI, reduceCtorEq]
                    all_goals repeat' (first | (apply brB_mk <;> (intro hg; (try simp only [push_cast] at hg))) | apply And.intro | (intro hg; (try simp only [push_cast] at hg)))
                    all_goals first | exact True.intro | exact rfl | contradiction | omega | with_reducible assumption | (exact getE_dII (by omega)) | (have h8 := hwr (by omega); have h7 := hedp (by omega); have h6 := hed (by omega); omega) | (have h9 := hto v (by omega) i (by omega); have h8 := hwr (by omega); simp only [payL_len]; omega) | (have h9 := hto v (by omega) i (by omega); have h8 := hwr (by omega); omega) | skip
                    (try simp only [AThen, ABlk, reduceIte, zF]); refine hK8 _ ?_
                    refine awp_region tyOk tyPos [] rfl ?_
                    all_goals simp only [push_cast, ↓brB_true, ↓brB_false, ↓reduceIte, zA, zB, zC, zD, zE, zF, zG, zH, zI, reduceCtorEq]
                    all_goals repeat' (first | (apply brB_mk <;> (intro hg; (try simp only [push_cast] at hg))) | apply And.intro | (intro hg; (try simp only [push_cast] at hg)))
                    all_goals first | exact True.intro | exact rfl | contradiction | omega | with_reducible assumption | (exact getE_dII (by omega)) | (have h8 := hwr (by omega); have h7 := hedp (by omega); have h6 := hed (by omega); omega) | (have h9 := hto v (by omega) i (by omega); have h8 := hwr (by omega); simp only [payL_len]; omega) | (have h9 := hto v (by omega) i (by omega); have h8 := hwr (by omega); omega) | skip
                    refine hL2 _ ⟨(i + 1, z2.set v (edgeV w k v i)), ⟨by simp only; have := hwr (by omega); omega, by simp only; rw [List.length_set]; exact hzl, fun u9 h => (by simp only at h ⊢; rw [set_keep (by omega)]; exact hz2 u9 h), fun _ => (by simp only; rw [set_same (by omega)]; exact play_yes hz3 (by first | exact .inl (by omega) | exact .inr hc))⟩, by simp only; omega, ?_⟩
                    refine cov_of rfl ?_ ?_ ?_ <;> simp only [covS, covL, push_cast, ↓brB_true, ↓brB_false, ↓reduceIte, zA, zB, zC, zD, zE, zF, zG, zH, zI, reduceCtorEq]
                    done)
            ·
              refine awp_exit ?_
              have hii : i = (gl w.a.next v).length := by have := hwr (by omega); omega
              subst hii
              have hz3 := hz3 (by have := hwr (by omega); omega)
              (try simp only [AThen, ABlk, reduceIte, zF]); refine hK6 _ ?_
              refine awp_region tyOk tyPos [] rfl ?_
              all_goals simp only [push_cast, ↓brB_true, ↓brB_false, ↓reduceIte, zA, zB, zC, zD, zE, zF, zG, zH, zI, reduceCtorEq]
              all_goals repeat' (first | (apply brB_mk <;> (intro hg; (try simp only [push_cast] at hg))) | apply And.intro | (intro hg; (try simp only [push_cast] at hg)))
              all_goals first | exact True.intro | exact rfl | contradiction | omega | with_reducible assumption | (exact getE_dII (by omega)) | (have h8 := hwr (by omega); have h7 := hedp (by omega); have h6 := hed (by omega); omega) | (have h9 := hto v (by omega) i (by omega); have h8 := hwr (by omega); simp only [payL_len]; omega) | (have h9 := hto v (by omega) i (by omega); have h8 := hwr (by omega); omega) | skip
              refine hL1 _ ⟨(v + 1, z2), ⟨by simp only; omega, by simp only; omega, fun u9 h9 => (by
                  simp only at h9 ⊢
                  by_cases e : u9 = v
                  · subst e
                    rw [hz3, pay_s]
                  · rw [hz2 u9 (by omega), hall u9 (by omega)])⟩, by simp only; omega, ?_⟩
              refine cov_of rfl ?_ ?_ ?_ <;> simp only [covS, covL, push_cast, ↓brB_true, ↓brB_false, ↓reduceIte, zA, zB, zC, zD, zE, zF, zG, zH, zI, reduceCtorEq]
        ·
          refine awp_exit ?_
          have hvv : v = w.a.owner.length := by omega
          subst hvv
          (try simp only [AThen, ABlk, reduceIte, zF]); refine hK4 _ ?_
          refine awp_region tyOk tyPos [] rfl ?_
          all_goals simp only [push_cast, ↓brB_true, ↓brB_false, ↓reduceIte, zA, zB, zC, zD, zE, zF, zG, zH, zI, reduceCtorEq]
          all_goals repeat' (first | (apply brB_mk <;> (intro hg; (try simp only [push_cast] at hg))) | apply And.intro | (intro hg; (try simp only [push_cast] at hg)))
          all_goals first | exact True.intro | exact rfl | contradiction | omega | with_reducible assumption | (exact getE_dII (by omega)) | (have h8 := hwr (by omega); have h7 := hedp (by omega); have h6 := hed (by omega); omega) | (have h9 := hto v (by omega) i (by omega); have h8 := hwr (by omega); simp only [payL_len]; omega) | (have h9 := hto v (by omega) i (by omega); have h8 := hwr (by omega); omega) | skip
          (try simp only [AThen, ABlk, reduceIte, zF]); refine hK3 _ ?_
          refine awp_region tyOk tyPos [] rfl ?_
          all_goals simp only [push_cast, ↓brB_true, ↓brB_false, ↓reduceIte, zA, zB, zC, zD, zE, zF, zG, zH, zI, reduceCtorEq]
          all_goals repeat' (first | (apply brB_mk <;> (intro hg; (try simp only [push_cast] at hg))) | apply And.intro | (intro hg; (try simp only [push_cast] at hg)))
          all_goals first | exact True.intro | exact rfl | contradiction | omega | with_reducible assumption | (exact getE_dII (by omega)) | (have h8 := hwr (by omega); have h7 := hedp (by omega); have h6 := hed (by omega); omega) | (have h9 := hto v (by omega) i (by omega); have h8 := hwr (by omega); simp only [payL_len]; omega) | (have h9 := hto v (by omega) i (by omega); have h8 := hwr (by omega); omega) | skip
          refine hL0 _ ⟨k + 1, by omega, by omega, ?_⟩
          rw [show z = payL w (k + 1) from payL_ext hz fun u hu => hall u (by omega)]
          refine cov_of rfl ?_ ?_ ?_ <;> simp only [covS, covL, push_cast, ↓brB_true, ↓brB_false, ↓reduceIte, zA, zB, zC, zD, zE, zF, zG, zH, zI, reduceCtorEq]
          all_goals (try (refine congrArg (AV.int .i64) ?_; omega))
          all_goals (try (rw [payL_len]; done))
          all_goals (try omega)
    ·
      refine awp_exit ?_
      have hkk : k = T := by omega
      subst hkk
      (try simp only [AThen, ABlk, reduceIte, zF]); refine hK1 _ ?_
      refine awp_seq' fun K hK => ?_
      refine awp_region tyOk tyPos [] rfl ?_
      all_goals simp only [push_cast, ↓brB_true, ↓brB_false, ↓reduceIte, zA, zB, zC, zD, zE, zF, zG, zH, zI, reduceCtorEq]
      all_goals repeat' (first | (apply brB_mk <;> (intro hg; (try simp only [push_cast] at hg))) | apply And.intro | (intro hg; (try simp only [push_cast] at hg)))
      all_goals first | exact True.intro | exact rfl | contradiction | omega | with_reducible assumption | (exact getE_dII (by omega)) | (have h8 := hwr (by omega); have h7 := hedp (by omega); have h6 := hed (by omega); omega) | (have h9 := hto v (by omega) i (by omega); have h8 := hwr (by omega); simp only [payL_len]; omega) | (have h9 := hto v (by omega) i (by omega); have h8 := hwr (by omega); omega) | skip
      all_goals first | (refine hK _ ?_; clear hK K) | (simp only [push_cast]; done)
      refine awp_ret ?_
      (try simp only [AThen, ABlk])
      refine ⟨Or.inl rfl, ?_⟩
      simp only [RetOk, push_cast, ↓brB_true, ↓brB_false, ↓reduceIte, zA, zB, zC, zD, zE, zF, zG, zH, zI, reduceCtorEq]
      first | rfl | exact ⟨rfl, by rw [payL_len]⟩ | (rw [payL_len]; done)
end Go.Proofs.Ytdbecmmeifdafaa
