/- the sum of the costs around a loop: both sides -/
import Derived.Test.YtdbecmmeifdafaaGWzcr
import Derived.Test.YtdbecmmeifdafaaGDzcr
namespace Go.Proofs.Ytdbecmmeifdafaa
open Nat renaming reduceMod → zA, reduceMul → zB, reduceDiv → zC, reduceAdd → zD, reduceSub → zE, reduceEqDiff → zF, reduceBEq → zG, reduceLT → zH, reduceLeDiff → zI
open Go.RowKit
set_option linter.unusedVariables false
set_option linter.unusedSimpArgs false

theorem mod_bd {k n : Nat} (h : k < n) : 0 ≤ ((k : Int) + 1).tmod n ∧ ((k : Int) + 1).tmod n < n ∧ (((k : Int) + 1).tmod n).toNat < n ∧ ((((k : Int) + 1).tmod n).toNat = if k + 1 < n then k + 1 else 0) := by
  have e : ((k : Int) + 1).tmod n = (((k + 1) % n : Nat) : Int) := by
    rw [Int.tmod_eq_emod_of_nonneg (by omega)]
    simp
  have h1 : (k + 1) % n < n := Nat.mod_lt _ (by omega)
  rw [e]
  refine ⟨by omega, by omega, by omega, ?_⟩
  rw [Int.toNat_natCast]
  split
  · exact Nat.mod_eq_of_lt (by assumption)
  · rw [show k + 1 = n from by omega, Nat.mod_self]
theorem loop_mod {xs : List Int} {k : Nat} (h : k < xs.length) : gi xs (((k : Int) + 1).tmod xs.length).toNat = nextAt xs (gi xs 0) k := by
  rw [(mod_bd h).2.2.2]
  unfold nextAt
  split <;> rfl
theorem loopV_le {w : Wt} {l : Ls} (h : weightedB w = true) (hl : lassoB w.a l = true) {k : Nat} (hk : k ≤ l.loop.length) : -256000 ≤ psum (fun i => stepC w (gi l.loop i) (nextAt l.loop (gi l.loop 0) i)) k ∧ psum (fun i => stepC w (gi l.loop i) (nextAt l.loop (gi l.loop 0) i)) k ≤ 256000 := by
  have h1 := lassoB_len' hl
  have := psum_le (f := fun i => stepC w (gi l.loop i) (nextAt l.loop (gi l.loop 0) i)) (b := 1000) (n := k) fun i hi => stepC_le h (loop_at hl (by omega)).1
  omega
set_option maxRecDepth 20000 in
set_option maxHeartbeats 4000000 in
theorem loopSum_fn (w : Wt) (l : Ls) (ha : w.Ln 1048576) (hl : l.Ln 1048576) (hw : weightedB w = true) (hlas : lassoB w.a l = true) : Fn Try.prog tyT 69 [.agg (dWt w), .agg (dLs l)] [.c (.int .i64 (loopV w l))] := by
  have hno := ha.a.owner
  have hlp := hl.loop
  have hst := hl.stem
  unfold LnI at hno hlp hst
  have hll := lassoB_len' hlas
  have hC := fun v hv u hu => costOf_fn w ha hw v hv u hu
  unfold dWt at hC ⊢
  unfold dLs
  refine Fn_of (fn := Try.f69) (ts := [4]) Try.func69 (by kernel_rfl) rfl rfl (by rw [Try.ntmps69]; exact Nat.le_of_ble_eq_true rfl) rfl (by simp only [szA, List.mem_cons, List.not_mem_nil, or_false, forall_eq_or_imp, forall_eq, VT.cells, szL]; try decide) ?_
  rw [Try.ntmps69]
  simp only [push_cast, ↓brB_true, ↓brB_false, ↓reduceIte, zA, zB, zC, zD, zE, zF, zG, zH, zI, reduceCtorEq]
  refine awp_seq' fun K hK => ?_
  refine awp_region tyOk tyPos [] rfl ?_
  all_goals simp only [push_cast, ↓brB_true, ↓brB_false, ↓reduceIte, zA, zB, zC, zD, zE, zF, zG, zH, zI, reduceCtorEq]
  all_goals repeat' (first | (apply brB_mk <;> (intro hg; (try simp only [push_cast] at hg))) | (refine ⟨_, hC _ (hat (by omega)).1 _ (by rw [loop_mod (by omega)]; exact (hat (by omega)).2), ?_⟩; simp only [push_cast, ↓brB_true, ↓brB_false, ↓reduceIte, zA, zB, zC, zD, zE, zF, zG, zH, zI, reduceCtorEq]) | apply And.intro | (intro hg; (try simp only [push_cast] at hg)))
  all_goals first | exact True.intro | exact rfl | contradiction | omega | with_reducible assumption | (rw [loop_mod (by omega)]; have := hb2 (by omega); omega) | (have := hmd (by omega); omega) | skip
  all_goals first | (refine hK _ ?_; clear hK K) | (simp only [push_cast]; done)
  refine awp_seq' fun K hK => ?_
  refine awp_region tyOk tyPos [] rfl ?_
  all_goals simp only [push_cast, ↓brB_true, ↓brB_false, ↓reduceIte, zA, zB, zC, zD, zE, zF, zG, zH, zI, reduceCtorEq]
  all_goals repeat' (first | (apply brB_mk <;> (intro hg; (try simp only [push_cast] at hg))) | (refine ⟨_, hC _ (hat (by omega)).1 _ (by rw [loop_mod (by omega)]; exact (hat (by omega)).2), ?_⟩; simp only [push_cast, ↓brB_true, ↓brB_false, ↓reduceIte, zA, zB, zC, zD, zE, zF, zG, zH, zI, reduceCtorEq]) | apply And.intro | (intro hg; (try simp only [push_cast] at hg)))
  all_goals first | exact True.intro | exact rfl | contradiction | omega | with_reducible assumption | (rw [loop_mod (by omega)]; have := hb2 (by omega); omega) | (have := hmd (by omega); omega) | skip
  all_goals first | (refine hK _ ?_; clear hK K) | (simp only [push_cast]; done)
  refine awp_seq' fun K1 hK1 => ?_
  refine awp_seq' fun K hK => ?_
  refine awp_region tyOk tyPos [] rfl ?_
  all_goals simp only [push_cast, ↓brB_true, ↓brB_false, ↓reduceIte, zA, zB, zC, zD, zE, zF, zG, zH, zI, reduceCtorEq]
  all_goals repeat' (first | (apply brB_mk <;> (intro hg; (try simp only [push_cast] at hg))) | (refine ⟨_, hC _ (hat (by omega)).1 _ (by rw [loop_mod (by omega)]; exact (hat (by omega)).2), ?_⟩; simp only [push_cast, ↓brB_true, ↓brB_false, ↓reduceIte, zA, zB, zC, zD, zE, zF, zG, zH, zI, reduceCtorEq]) | apply And.intro | (intro hg; (try simp only [push_cast] at hg)))
  all_goals first | exact True.intro | exact rfl | contradiction | omega | with_reducible assumption | (rw [loop_mod (by omega)]; have := hb2 (by omega); omega) | (have := hmd (by omega); omega) | skip
  all_goals first | (refine hK _ ?_; clear hK K) | (simp only [push_cast]; done)
  refine awp_block ?_
  refine awp_loopU [5,6,7,11,12,13,14,15,16,17,18,19,20,21,22,23,24,25,26,27,28,29,30,31] [] (fun (k : Nat) => [(11, .int .i64 k), (5, .int .i64 (psum (fun i => stepC w (gi l.loop i) (nextAt l.loop (gi l.loop 0) i)) k))]) (fun k => []) (fun k => []) (fun k => k ≤ l.loop.length) (fun k => l.loop.length - k) 0 ?_ (by omega) ?_
  ·
    simp only [psum]
    refine cov_of rfl ?_ ?_ ?_ <;> simp only [covS, covL, push_cast, ↓brB_true, ↓brB_false, ↓reduceIte, zA, zB, zC, zD, zE, zF, zG, zH, zI, reduceCtorEq]
  · rintro k hk KL0 hL0
    have hb1 := loopV_le hw hlas hk
    have hb2 : k < l.loop.length → _ := fun h => loopV_le hw hlas (k := k + 1) (by omega)
    have hat : k < l.loop.length → _ := fun h => loop_at hlas h
    simp only [psum] at hb2
    have hmd : k < l.loop.length → _ := fun h => mod_bd h
    simp only [push_cast, ↓brB_true, ↓brB_false, ↓reduceIte, zA, zB, zC, zD, zE, zF, zG, zH, zI, reduceCtorEq]
    refine awp_seq' fun K hK => ?_
    refine awp_region tyOk tyPos [] rfl ?_
    all_goals simp only [push_cast, ↓brB_true, ↓brB_false, ↓reduceIte, zA, zB, zC, zD, zE, zF, zG, zH, zI, reduceCtorEq]
    all_goals repeat' (first | (apply brB_mk <;> (intro hg; (try simp only [push_cast] at hg))) | (refine ⟨_, hC _ (hat (by omega)).1 _ (by rw [loop_mod (by omega)]; exact (hat (by omega)).2), ?_⟩; simp only [push_cast, ↓brB_true, ↓brB_false, ↓reduceIte, zA, zB, zC, zD, zE, zF, zG, zH, zI, reduceCtorEq]) | apply And.intro | (intro hg; (try simp only [push_cast] at hg)))
    all_goals first | exact True.intro | exact rfl | contradiction | omega | with_reducible assumption | (rw [loop_mod (by omega)]; have := hb2 (by omega); omega) | (have := hmd (by omega); omega) | skip
    all_goals first | (refine hK _ ?_; clear hK K) | (simp only [push_cast]; done)
    refine awp_seq' fun K2 hK2 => ?_
    refine awp_cond rfl (fun hc => ?_) (fun hc => ?_) <;> (try simp only [push_cast] at hc)
    ·
      refine awp_skip ?_
      (try simp only [AThen, ABlk, reduceIte, zF]); refine hK2 _ ?_
      refine awp_seq' fun K3 hK3 => ?_
      refine awp_block ?_
      refine awp_seq' fun K hK => ?_
      refine awp_region tyOk tyPos [] rfl ?_
      all_goals simp only [push_cast, ↓brB_true, ↓brB_false, ↓reduceIte, zA, zB, zC, zD, zE, zF, zG, zH, zI, reduceCtorEq]
      all_goals repeat' (first | (apply brB_mk <;> (intro hg; (try simp only [push_cast] at hg))) | (refine ⟨_, hC _ (hat (by omega)).1 _ (by rw [loop_mod (by omega)]; exact (hat (by omega)).2), ?_⟩; simp only [push_cast, ↓brB_true, ↓brB_false, ↓reduceIte, zA, zB, zC, zD, zE, zF, zG, zH, zI, reduceCtorEq]) | apply And.intro | (intro hg; (try simp only [push_cast] at hg)))
      all_goals first | exact True.intro | exact rfl | contradiction | omega | with_reducible assumption | (rw [loop_mod (by omega)]; have := hb2 (by omega); omega) | (have := hmd (by omega); omega) | skip
      all_goals first | (refine hK _ ?_; clear hK K) | (simp only [push_cast]; done)
      refine awp_regionD1 false tyOk tyPos tyMix ?_ rfl ?_
      · kernel_rfl
      intro E hE
      all_goals refine lexF_cut 14 (by decide) fun K9 hK9 => ?_
      all_goals simp only [push_cast, ↓brB_true, ↓brB_false, ↓reduceIte, zA, zB, zC, zD, zE, zF, zG, zH, zI, reduceCtorEq]
      all_goals repeat' (first | (apply brB_mk <;> (intro hg; (try simp only [push_cast] at hg))) | (refine ⟨_, hC _ (hat (by omega)).1 _ (by rw [loop_mod (by omega)]; exact (hat (by omega)).2), ?_⟩; simp only [push_cast, ↓brB_true, ↓brB_false, ↓reduceIte, zA, zB, zC, zD, zE, zF, zG, zH, zI, reduceCtorEq]) | apply And.intro | (intro hg; (try simp only [push_cast] at hg)))
      all_goals first | exact True.intro | exact rfl | contradiction | omega | with_reducible assumption | (rw [loop_mod (by omega)]; have := hb2 (by omega); omega) | (have := hmd (by omega); omega) | skip
      all_goals first | (refine hK9 _ _ ?_; clear hK9 K9) | (simp only [push_cast]; done)
      all_goals simp only [push_cast, ↓brB_true, ↓brB_false, ↓reduceIte, zA, zB, zC, zD, zE, zF, zG, zH, zI, reduceCtorEq]
      all_goals repeat' (first | (apply brB_mk <;> (intro hg; (try simp only [push_cast] at hg))) | (refine ⟨_, hC _ (hat (by omega)).1 _ (by rw [loop_mod (by omega)]; exact (hat (by omega)).2), ?_⟩; simp only [push_cast, ↓brB_true, ↓brB_false, ↓reduceIte, zA, zB, zC, zD, zE, zF, zG, zH, zI, reduceCtorEq]) | apply And.intro | (intro hg; (try simp only [push_cast] at hg)))
      all_goals first | exact True.intro | exact rfl | contradiction | omega | with_reducible assumption | (refine hE _ _ ?_ ?_; kernel_rfl) | (rw [loop_mod (by omega)]; have := hb2 (by omega); omega) | (have := hmd (by omega); omega) | skip
      all_goals clear hE E
      (try simp only [AThen, ABlk, reduceIte, zF]); refine hK3 _ ?_
      refine awp_region tyOk tyPos [] rfl ?_
      all_goals simp only [push_cast, ↓brB_true, ↓brB_false, ↓reduceIte, zA, zB, zC, zD, zE, zF, zG, zH, zI, reduceCtorEq]
      all_goals repeat' (first | (apply brB_mk <;> (intro hg; (try simp only [push_cast] at hg))) | (refine ⟨_, hC _ (hat (by omega)).1 _ (by rw [loop_mod (by omega)]; exact (hat (by omega)).2), ?_⟩; simp only [push_cast, ↓brB_true, ↓brB_false, ↓reduceIte, zA, zB, zC, zD, zE, zF, zG, zH, zI, reduceCtorEq]) | apply And.intro | (intro hg; (try simp only [push_cast] at hg)))
      all_goals first | exact True.intro | exact rfl | contradiction | omega | with_reducible assumption | (rw [loop_mod (by omega)]; have := hb2 (by omega); omega) | (have := hmd (by omega); omega) | skip
      refine hL0 _ ⟨k + 1, by omega, by omega, ?_⟩
      rw [loop_mod (by omega)]
      simp only [psum]
      refine cov_of rfl ?_ ?_ ?_ <;> simp only [covS, covL, push_cast, ↓brB_true, ↓brB_false, ↓reduceIte, zA, zB, zC, zD, zE, zF, zG, zH, zI, reduceCtorEq]
    ·
      refine awp_exit ?_
      (try simp only [AThen, ABlk, reduceIte, zF]); refine hK1 _ ?_
      refine awp_seq' fun K hK => ?_
      refine awp_region tyOk tyPos [] rfl ?_
      all_goals simp only [push_cast, ↓brB_true, ↓brB_false, ↓reduceIte, zA, zB, zC, zD, zE, zF, zG, zH, zI, reduceCtorEq]
      all_goals repeat' (first | (apply brB_mk <;> (intro hg; (try simp only [push_cast] at hg))) | (refine ⟨_, hC _ (hat (by omega)).1 _ (by rw [loop_mod (by omega)]; exact (hat (by omega)).2), ?_⟩; simp only [push_cast, ↓brB_true, ↓brB_false, ↓reduceIte, zA, zB, zC, zD, zE, zF, zG, zH, zI, reduceCtorEq]) | apply And.intro | (intro hg; (try simp only [push_cast] at hg)))
      all_goals first | exact True.intro | exact rfl | contradiction | omega | with_reducible assumption | (rw [loop_mod (by omega)]; have := hb2 (by omega); omega) | (have := hmd (by omega); omega) | skip
      all_goals first | (refine hK _ ?_; clear hK K) | (simp only [push_cast]; done)
      refine awp_ret ?_
      (try simp only [AThen, ABlk])
      refine ⟨Or.inl rfl, ?_⟩
      simp only [RetOk, push_cast, ↓brB_true, ↓brB_false, ↓reduceIte, zA, zB, zC, zD, zE, zF, zG, zH, zI, reduceCtorEq]
      rw [show k = l.loop.length from by omega]; rfl
end Go.Proofs.Ytdbecmmeifdafaa
