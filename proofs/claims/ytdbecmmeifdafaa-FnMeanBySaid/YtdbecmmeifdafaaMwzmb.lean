/- values against a fraction; the means of a game: both sides -/
import Derived.Test.YtdbecmmeifdafaaMtzmb
import Derived.Test.YtdbecmmeifdafaaMuzmb
import Derived.Test.YtdbecmmeifdafaaFkzmb
namespace Go.Proofs.Ytdbecmmeifdafaa
open Nat renaming reduceMod → zA, reduceMul → zB, reduceDiv → zC, reduceAdd → zD, reduceSub → zE, reduceEqDiff → zF, reduceBEq → zG, reduceLT → zH, reduceLeDiff → zI
open Go.RowKit
set_option linter.unusedVariables false
set_option linter.unusedSimpArgs false

open MV (Gm)
theorem wmn_of {w : Wt} (h : meanB w = true) : WMn w := by
  have hw := meanB_ok h
  obtain ⟨h1, h2, h3, h4, h5, h6⟩ := weighted_facts hw
  have h8 : w.cost.length ≤ 8 := by unfold meanB at h; rw [Bool.and_eq_true, decide_eq_true_eq] at h; exact h.2
  exact ⟨wsh_of hw, by omega, fun v hv j hj => (h6 v hv).2.2.2 j (by rw [(h6 v hv).1]; exact hj)⟩
theorem gf_means {w : Wt} {v : Nat} (h : v < w.a.owner.length) : gf (meansL w) v = valF w v := by
  unfold gf meansL
  rw [List.getD_eq_getElem?_getD, List.getElem?_map, List.getElem?_range h]
  rfl
theorem frOf_frac {p q : Int} (hq : 1 ≤ q ∧ q ≤ 8) (hp : -8000 ≤ p ∧ p ≤ 8000) : fracB (frOf p q) = true ∧ (-8000 ≤ (frOf p q).num ∧ (frOf p q).num ≤ 8000) ∧ 1 ≤ (frOf p q).den ∧ (frOf p q).den ≤ 8 := by
  have hg := gcd_pos' p hq.1
  obtain ⟨a, ha⟩ := Int.gcd_dvd_left (a := p) (b := q)
  obtain ⟨b, hb⟩ := Int.gcd_dvd_right (a := p) (b := q)
  have hg1 : Int.gcd a b = 1 := by
    have h1 : Int.gcd (Int.gcd p q * a) (Int.gcd p q * b) = Int.gcd p q * Int.gcd a b := by
      rw [Int.gcd_mul_left]; simp
    rw [← ha, ← hb] at h1
    have h2 : Int.gcd p q * 1 = Int.gcd p q * Int.gcd a b := by omega
    exact (Nat.eq_of_mul_eq_mul_left (by omega) h2).symm
  have e1 : p.tdiv (Int.gcd p q) = a := by
    conv => lhs; rw [ha]
    have h9 : Int.gcd (Int.gcd p q * a) q = Int.gcd p q := by rw [← ha]
    rw [h9]
    exact Int.mul_tdiv_cancel_left _ (by omega)
  have e2 : q.tdiv (Int.gcd p q) = b := by
    have h9 : (Int.gcd p q : Int) * b = q := hb.symm
    rw [← h9]
    have h10 : (Int.gcd p ((Int.gcd p q : Int) * b) : Int) = Int.gcd p q := by rw [h9]
    rw [h10]
    exact Int.mul_tdiv_cancel_left _ (by omega)
  have b1 := tdiv_bd (B := 8000) (Int.gcd p q) hp
  have b2 := tdiv_bd (B := 8) (n := q) (Int.gcd p q) (by omega)
  have hb0 : 1 ≤ b := by
    rcases Int.lt_or_le b 1 with h | h
    · have : (Int.gcd p q : Int) * b ≤ 0 := Int.mul_nonpos_of_nonneg_of_nonpos (by omega) (by omega)
      omega
    · exact h
  rw [e1] at b1
  rw [e2] at b2
  have e : frOf p q = ⟨a, b⟩ := by unfold frOf; rw [e1, e2]
  rw [e]
  refine ⟨?_, b1, hb0, b2.2⟩
  unfold fracB
  refine decide_eq_true ⟨⟨?_, ?_⟩, ⟨?_, ?_⟩, ?_⟩ <;> simp only <;> omega
theorem valF_ok {w : Wt} (h : WMn w) {v : Nat} (hv : v < w.a.owner.length) : fracB (valF w v) = true ∧ (-8000 ≤ (valF w v).num ∧ (valF w v).num ≤ 8000) ∧ 1 ≤ (valF w v).den ∧ (valF w v).den ≤ 8 := by
  have h1 := Gm.val_ok h.game hv
  have hm := h.mW
  have hn := h.n8
  have h2 : ((gmW w).val w.a.owner.length v).2 * mostW w ≤ 8 * 1000 := Int.mul_le_mul (by omega) hm.2 (by omega) (by omega)
  exact frOf_frac (by omega) (by omega)
def lessF (x y : Fr) : Bool := decide (x.num * y.den < y.num * x.den)
theorem frac_rg {f : Fr} (h : fracB f = true) : (-1000000 ≤ f.num ∧ f.num ≤ 1000000) ∧ 1 ≤ f.den ∧ f.den ≤ 1000000 := by
  unfold fracB at h
  have := of_decide_eq_true h
  exact ⟨this.1, this.2.1⟩
def meansR (w : Wt) : List Fr := if meanB w then meansL w else []
theorem meansR_no {w : Wt} (h : meanB w = false) : meansR w = [] := by unfold meansR; rw [h]; rfl
theorem meansR_yes {w : Wt} (h : meanB w = true) : meansR w = meansL w := by unfold meansR; rw [h]; rfl
set_option maxRecDepth 20000 in
set_option maxHeartbeats 4000000 in
theorem fracLess_fn (x y : Fr) (hx : (-1000000 ≤ x.num ∧ x.num ≤ 1000000) ∧ 1 ≤ x.den ∧ x.den ≤ 1000000) (hy : (-1000000 ≤ y.num ∧ y.num ≤ 1000000) ∧ 1 ≤ y.den ∧ y.den ≤ 1000000) : Fn Try.prog tyT 77 [.agg (dFr x), .agg (dFr y)] [.c (.bool (lessF x y))] := by
  have h1 := mul_bd (x := x.num) (q := y.den) (X := 1000000) (Q := 1000000) hx.1 (by omega) (by omega) (by omega)
  have h2 := mul_bd (x := y.num) (q := x.den) (X := 1000000) (Q := 1000000) hy.1 (by omega) (by omega) (by omega)
  unfold dFr
  refine Fn_of (fn := Try.f77) (ts := [4]) Try.func77 (by kernel_rfl) rfl rfl (by rw [Try.ntmps77]; exact Nat.le_of_ble_eq_true rfl) rfl (by simp only [szA, List.mem_cons, List.not_mem_nil, or_false, forall_eq_or_imp, forall_eq, VT.cells, szL]; try decide) ?_
  rw [Try.ntmps77]
  simp only [push_cast, ↓brB_true, ↓brB_false, ↓reduceIte, zA, zB, zC, zD, zE, zF, zG, zH, zI, reduceCtorEq]
  refine awp_seq' fun K hK => ?_
  refine awp_region tyOk tyPos [] rfl ?_
  simp only [push_cast, ↓brB_true, ↓brB_false, ↓reduceIte, zA, zB, zC, zD, zE, zF, zG, zH, zI, reduceCtorEq]
  repeat' apply And.intro
  all_goals first | exact True.intro | exact rfl | omega | with_reducible assumption | (simp only [List.length_set, List.length_append, List.length_replicate, List.length_cons, List.length_nil]; omega) | skip
  all_goals first | (refine hK _ ?_; clear hK K) | (simp only [push_cast]; done)
  refine awp_seq' fun K hK => ?_
  refine awp_region tyOk tyPos [] rfl ?_
  simp only [push_cast, ↓brB_true, ↓brB_false, ↓reduceIte, zA, zB, zC, zD, zE, zF, zG, zH, zI, reduceCtorEq]
  repeat' apply And.intro
  all_goals first | exact True.intro | exact rfl | omega | with_reducible assumption | (simp only [List.length_set, List.length_append, List.length_replicate, List.length_cons, List.length_nil]; omega) | skip
  all_goals first | (refine hK _ ?_; clear hK K) | (simp only [push_cast]; done)
  refine awp_ret ?_
  (try simp only [AThen, ABlk])
  refine ⟨Or.inl rfl, ?_⟩
  simp only [RetOk, push_cast, ↓brB_true, ↓brB_false, ↓reduceIte, zA, zB, zC, zD, zE, zF, zG, zH, zI, reduceCtorEq]
  rfl
set_option maxRecDepth 20000 in
set_option maxHeartbeats 4000000 in
theorem MeanOfS_fn (w : Wt) (ha : w.Ln 1048576) : Fn Try.prog tyT 25 [.agg (dWt w)] [.c (.lst 50 (dFrs (meansR w)))] := by
  have hA := l21Ok_fn w ha
  have hO := fun h => l21Means_fn w ha (wmn_of h)
  unfold dWt at hA hO ⊢
  refine Fn_of (fn := Try.f25) (ts := [2]) Try.func25 (by kernel_rfl) rfl rfl (by rw [Try.ntmps25]; exact Nat.le_of_ble_eq_true rfl) rfl (by simp only [szA, List.mem_cons, List.not_mem_nil, or_false, forall_eq_or_imp, forall_eq, VT.cells, szL]; try decide) ?_
  rw [Try.ntmps25]
  simp only [push_cast, ↓brB_true, ↓brB_false, ↓reduceIte, zA, zB, zC, zD, zE, zF, zG, zH, zI, reduceCtorEq]
  refine awp_seq' fun K hK => ?_
  refine awp_region tyOk tyPos [] rfl ?_
  simp only [push_cast, ↓brB_true, ↓brB_false, ↓reduceIte, zA, zB, zC, zD, zE, zF, zG, zH, zI, reduceCtorEq]
  repeat' apply And.intro
  all_goals first | exact True.intro | exact rfl | omega | with_reducible assumption | (simp only [List.length_set, List.length_append, List.length_replicate, List.length_cons, List.length_nil]; omega) | skip
  all_goals first | (refine hK _ ?_; clear hK K) | (simp only [push_cast]; done)
  refine awp_seq' fun K1 hK1 => ?_
  refine awp_seq' fun K hK => ?_
  refine awp_region tyOk tyPos [] rfl ?_
  all_goals refine aops_cut 2 fun K9 hK9 => ?_
  all_goals simp only [push_cast, ↓brB_true, ↓brB_false, ↓reduceIte, zA, zB, zC, zD, zE, zF, zG, zH, zI, reduceCtorEq]
  all_goals repeat' (first | (apply brB_mk <;> (intro hg; (try simp only [push_cast] at hg))) | (refine ⟨_, hA, ?_⟩; simp only [push_cast, ↓brB_true, ↓brB_false, ↓reduceIte, zA, zB, zC, zD, zE, zF, zG, zH, zI, reduceCtorEq]) | apply And.intro | (intro hg; (try simp only [push_cast] at hg)))
  all_goals first | exact True.intro | exact rfl | contradiction | omega | with_reducible assumption | skip
  all_goals first | (refine hK9 _ ?_; clear hK9 K9) | (simp only [push_cast]; done)
  all_goals simp only [push_cast, ↓brB_true, ↓brB_false, ↓reduceIte, zA, zB, zC, zD, zE, zF, zG, zH, zI, reduceCtorEq]
  all_goals repeat' (first | (apply brB_mk <;> (intro hg; (try simp only [push_cast] at hg))) | (refine ⟨_, hA, ?_⟩; simp only [push_cast, ↓brB_true, ↓brB_false, ↓reduceIte, zA, zB, zC, zD, zE, zF, zG, zH, zI, reduceCtorEq]) | apply And.intro | (intro hg; (try simp only [push_cast] at hg)))
  all_goals first | exact True.intro | exact rfl | contradiction | omega | with_reducible assumption | skip
  all_goals first | (refine hK _ ?_; clear hK K) | (simp only [push_cast]; done)
  refine awp_cond rfl (fun hc => ?_) (fun hc => ?_) <;> (try simp only [push_cast] at hc)
  ·
    refine awp_seq' fun K hK => ?_
    refine awp_regionN false tyOk tyPos ?_ rfl ?_
    · kernel_rfl
    simp only [push_cast, ↓brB_true, ↓brB_false, ↓reduceIte, zA, zB, zC, zD, zE, zF, zG, zH, zI, reduceCtorEq]
    all_goals repeat' (first | (apply brB_mk <;> (intro hg; (try simp only [push_cast] at hg))) | apply And.intro | (intro hg; (try simp only [push_cast] at hg)))
    all_goals first | exact True.intro | exact rfl | contradiction | omega | with_reducible assumption | skip
    all_goals first | (refine hK _ ?_; clear hK K) | (simp only [push_cast]; done)
    refine awp_ret ?_
    (try simp only [AThen, ABlk])
    refine ⟨Or.inl rfl, ?_⟩
    simp only [RetOk, push_cast, ↓brB_true, ↓brB_false, ↓reduceIte, zA, zB, zC, zD, zE, zF, zG, zH, zI, reduceCtorEq]
    rw [meansR_no (by with_reducible assumption)]
    all_goals first | rfl | exact ⟨rfl, rfl⟩
  ·
    refine awp_skip ?_
    (try simp only [AThen, ABlk, reduceIte, zF]); refine hK1 _ ?_
    refine awp_seq' fun K hK => ?_
    refine awp_region tyOk tyPos [] rfl ?_
    all_goals refine aops_cut 2 fun K9 hK9 => ?_
    all_goals simp only [push_cast, ↓brB_true, ↓brB_false, ↓reduceIte, zA, zB, zC, zD, zE, zF, zG, zH, zI, reduceCtorEq]
    all_goals repeat' (first | (apply brB_mk <;> (intro hg; (try simp only [push_cast] at hg))) | (refine ⟨_, hO (by with_reducible assumption), ?_⟩; simp only [push_cast, ↓brB_true, ↓brB_false, ↓reduceIte, zA, zB, zC, zD, zE, zF, zG, zH, zI, reduceCtorEq]) | apply And.intro | (intro hg; (try simp only [push_cast] at hg)))
    all_goals first | exact True.intro | exact rfl | contradiction | omega | with_reducible assumption | skip
    all_goals first | (refine hK9 _ ?_; clear hK9 K9) | (simp only [push_cast]; done)
    all_goals simp only [push_cast, ↓brB_true, ↓brB_false, ↓reduceIte, zA, zB, zC, zD, zE, zF, zG, zH, zI, reduceCtorEq]
    all_goals repeat' (first | (apply brB_mk <;> (intro hg; (try simp only [push_cast] at hg))) | (refine ⟨_, hO (by with_reducible assumption), ?_⟩; simp only [push_cast, ↓brB_true, ↓brB_false, ↓reduceIte, zA, zB, zC, zD, zE, zF, zG, zH, zI, reduceCtorEq]) | apply And.intro | (intro hg; (try simp only [push_cast] at hg)))
    all_goals first | exact True.intro | exact rfl | contradiction | omega | with_reducible assumption | skip
    all_goals first | (refine hK _ ?_; clear hK K) | (simp only [push_cast]; done)
    refine awp_ret ?_
    (try simp only [AThen, ABlk])
    refine ⟨Or.inl rfl, ?_⟩
    simp only [RetOk, push_cast, ↓brB_true, ↓brB_false, ↓reduceIte, zA, zB, zC, zD, zE, zF, zG, zH, zI, reduceCtorEq]
    rw [meansR_yes (by with_reducible assumption)]
    all_goals first | rfl | exact ⟨rfl, rfl⟩
end Go.Proofs.Ytdbecmmeifdafaa
