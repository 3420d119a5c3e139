/- The reference solver: who wins, the plan; walks -/
import Derived.Test.YtdbecmmeifdafaaB13zbm
namespace Go.Proofs.Ytdbecmmeifdafaa
open Nat renaming reduceMod → zA, reduceMul → zB, reduceDiv → zC, reduceAdd → zD, reduceSub → zE, reduceEqDiff → zF, reduceBEq → zG, reduceLT → zH, reduceLeDiff → zI
open Go.RowKit
set_option linter.unusedVariables false
set_option linter.unusedSimpArgs false

theorem take_flagB {s : List Bool} {k : Nat} (h : k < s.length) : (s.take (k + 1)).map flagI = (s.take k).map flagI ++ [flagI (gb s k)] := by
  rw [List.take_add_one, List.map_append]
  unfold gb
  rw [List.getD_eq_getElem?_getD, List.getElem?_eq_getElem h]
  rfl
def setP (x : L7) (p : List Int) : L7 := ⟨x.owner, x.prio, x.next, x.prev, p⟩
theorem setP_ok {x : L7} {n : Nat} (h : x.Ok n) {p : List Int} (hp : p.length = n) : (setP x p).Ok n :=
  ⟨h.hn, h.ho, h.hp, h.hx, h.hv, hp, h.deg, h.to, h.pr, h.ow, h.nd, h.dpv, h.pin, h.pal, h.pnd⟩
noncomputable def tryB (x : L7) (inn : List Bool) (v i : Nat) : Bool := gb inn (gi (gl x.next v) i).toNat && holdB inn (winL (setP x (x.pick.set v (gi (gl x.next v) i))) inn.length (inn.length + 1) inn) (gi x.owner v)
def pickS (x : L7) (inn : List Bool) (v : Nat) : Nat → List Int
  | 0 => x.pick
  | i + 1 => if gb inn (gi (gl x.next v) i).toNat then x.pick.set v (gi (gl x.next v) i) else pickS x inn v i
noncomputable def pickF (x : L7) (inn : List Bool) (v : Nat) : Nat → Nat → Int × List Int
  | 0, i => (-1, pickS x inn v i)
  | m + 1, i => if tryB x inn v i then (gi (gl x.next v) i, x.pick.set v (gi (gl x.next v) i)) else pickF x inn v m (i + 1)
theorem pickS_len (x : L7) (inn : List Bool) (v : Nat) : ∀ i, (pickS x inn v i).length = x.pick.length
  | 0 => rfl
  | i + 1 => by
    unfold pickS
    split
    · rw [List.length_set]
    · exact pickS_len x inn v i
theorem pickF_len (x : L7) (inn : List Bool) (v : Nat) : ∀ m i, (pickF x inn v m i).2.length = x.pick.length
  | 0, i => pickS_len x inn v i
  | m + 1, i => by
    unfold pickF
    split
    · exact List.length_set ..
    · exact pickF_len x inn v m (i + 1)
theorem pickS_set (x : L7) (inn : List Bool) (v : Nat) (u : Int) : ∀ i, (pickS x inn v i).set v u = x.pick.set v u
  | 0 => rfl
  | i + 1 => by
    unfold pickS
    split
    · rw [List.set_set]
    · exact pickS_set x inn v u i
theorem pickF_yes {x : L7} {inn : List Bool} {v L i : Nat} {r : Int × List Int} (hi : i < L) (h : pickF x inn v (L - i) i = r) (h2 : tryB x inn v i = true) : r = (gi (gl x.next v) i, x.pick.set v (gi (gl x.next v) i)) := by
  rw [← h, show L - i = (L - (i + 1)) + 1 from by omega]
  exact if_pos h2
theorem pickF_no {x : L7} {inn : List Bool} {v L i : Nat} {r : Int × List Int} (hi : i < L) (h : pickF x inn v (L - i) i = r) (h2 : tryB x inn v i = false) : pickF x inn v (L - (i + 1)) (i + 1) = r := by
  rw [← h, show L - i = (L - (i + 1)) + 1 from by omega]
  exact (if_neg (by rw [h2]; decide)).symm
theorem pickF_end {x : L7} {inn : List Bool} {v L : Nat} {r : Int × List Int} (h : pickF x inn v (L - L) L = r) : r = (-1, pickS x inn v L) := by
  rw [← h, Nat.sub_self]; rfl
theorem try_in {x : L7} {inn : List Bool} {v i : Nat} (h : gb inn (gi (gl x.next v) i).toNat = false) : tryB x inn v i = false := by unfold tryB; rw [h]; rfl
theorem try_h {x : L7} {inn : List Bool} {v i : Nat} {b : Bool} (h : gb inn (gi (gl x.next v) i).toNat = true) (h2 : holdB inn (winL (setP x (x.pick.set v (gi (gl x.next v) i))) inn.length (inn.length + 1) inn) (gi x.owner v) = b) : tryB x inn v i = b := by unfold tryB; rw [h, h2]; rfl
theorem pickS_yes {x : L7} {inn : List Bool} {v i : Nat} (h : gb inn (gi (gl x.next v) i).toNat = true) : x.pick.set v (gi (gl x.next v) i) = pickS x inn v (i + 1) := by
  show _ = if _ then _ else _; rw [h]; rfl
theorem pickS_no {x : L7} {inn : List Bool} {v i : Nat} (h : gb inn (gi (gl x.next v) i).toNat = false) : pickS x inn v i = pickS x inn v (i + 1) := by
  show _ = if _ then _ else _; rw [h]; rfl
noncomputable def planK (g : Pa) : Nat → List Int
  | 0 => noP g.a.owner.length
  | v + 1 => if 0 ≤ gi (planK g v) v ∨ ¬ gi (wonG g) v = gi g.a.owner v then planK g v else ((pickF (l7G g (planK g v)) (regL (wonG g) (gi (wonG g) v)) v (gl g.a.next v).length 0).2).set v (pickF (l7G g (planK g v)) (regL (wonG g) (gi (wonG g) v)) v (gl g.a.next v).length 0).1
theorem planK_len (g : Pa) : ∀ v, (planK g v).length = g.a.owner.length
  | 0 => noP_len _
  | v + 1 => by
    unfold planK
    split
    · exact planK_len g v
    · rw [List.length_set, pickF_len]; exact planK_len g v
theorem planK_no {g : Pa} {v : Nat} (h : 0 ≤ gi (planK g v) v ∨ ¬ gi (wonG g) v = gi g.a.owner v) : planK g v = planK g (v + 1) := (if_pos h).symm
theorem planK_yes {g : Pa} {v : Nat} (h1 : ¬ 0 ≤ gi (planK g v) v) (h2 : gi (wonG g) v = gi g.a.owner v) {w : Int} (hw : gi (wonG g) v = w) {r : Int × List Int} (hr : pickF (l7G g (planK g v)) (regL (wonG g) w) v (gl g.a.next v).length 0 = r) : r.2.set v r.1 = planK g (v + 1) := by
  subst hr; subst hw; exact (if_neg fun e => e.elim h1 fun e => e h2).symm
noncomputable def planG (g : Pa) : List Int := planK g g.a.owner.length
theorem flag_rg (b : Bool) : flagI b = 0 ∨ flagI b = 1 := by cases b <;> simp [flagI]
theorem noP_set (n v : Nat) (h : v < n) : (noP n).set v (-1) = noP n := by
  refine same_ext (by simp) fun k hk => ?_
  rw [List.length_set, noP_len] at hk
  rw [gi_setI (by rw [noP_len]; exact h), noP_gi _ _ hk]
  split <;> rfl
theorem regL_len (won : List Int) (w : Int) : (regL won w).length = won.length := mapB_len _ _
set_option maxRecDepth 20000 in
set_option maxHeartbeats 4000000 in
theorem l7Won_fn (g : Pa) (hok : parityB g = true) : Fn Try.prog tyT 130 [.agg (dPa g)] [.c (DI (wonG g))] := by
  obtain ⟨hao, hpl, hpr⟩ := parityB_facts hok
  have hal := arenaB_len hao
  have hxo := l7G_ok hok (noP_len g.a.owner.length)
  have hOf := l7Of_fn g hok
  have hAl := l7All_fn g.a.owner.length hal.2.1
  have hWn := l7Win_fn (l7G g (noP g.a.owner.length)) (g.a.owner.length + 1) (allT g.a.owner.length) (by rw [allT_len]; exact hxo) (by rw [allT_len]; exact Nat.lt_succ_of_le (cntB_top _ _))
  rw [allT_len] at hWn
  have hbl := wonB_len g
  have hw9 : winL (l7G g (noP g.a.owner.length)) g.a.owner.length (g.a.owner.length + 1) (allT g.a.owner.length) = wonB g := rfl
  rw [hw9, show allT g.a.owner.length = allT g.prio.length from by rw [hpl]] at hWn
  rw [← hpl] at hAl
  unfold wonG
  generalize wonB g = win at hWn hbl ⊢
  unfold dL7 l7G allT at hWn
  dsimp only at hWn
  unfold dPa at hOf ⊢
  refine Fn_of (fn := Try.f130) (ts := [2]) Try.func130 (by kernel_rfl) rfl rfl (by rw [Try.ntmps130]; exact Nat.le_of_ble_eq_true rfl) rfl (by simp only [szA, List.mem_cons, List.not_mem_nil, or_false, forall_eq_or_imp, forall_eq, VT.cells, szL]; try decide) ?_
  rw [Try.ntmps130]
  simp only [push_cast, ↓brB_true, ↓brB_false, ↓reduceIte, zA, zB, zC, zD, zE, zF, zG, zH, zI, reduceCtorEq]
  refine awp_seq' fun K hK => ?_
  refine awp_region tyOk tyPos [] rfl ?_
  simp only [push_cast, ↓brB_true, ↓brB_false, ↓reduceIte, zA, zB, zC, zD, zE, zF, zG, zH, zI, reduceCtorEq]
  repeat' apply And.intro
  all_goals try exact gB
  all_goals first | (refine hK _ ?_; clear hK K) | (simp only [push_cast]; done)
  refine awp_seq' fun K hK => ?_
  refine awp_regionDU false (actTE Try.prog tyT) 7 (fun _ _ _ h => actTE_act h) tyOk tyPos tyMix ?_ rfl ?_
  · kernel_rfl
  intro E hE
  all_goals refine lexU_cut 2 (by decide) fun K9 hK9 => ?_
  all_goals simp only [push_cast, ↓brB_true, ↓brB_false, ↓reduceIte, zA, zB, zC, zD, zE, zF, zG, zH, zI, reduceCtorEq]
  all_goals repeat' (first | (apply brB_mk <;> (intro hg; (try simp only [push_cast] at hg))) | (refine ⟨_, _, hOf, ?_⟩; simp only [push_cast, ↓brB_true, ↓brB_false, ↓reduceIte, zA, zB, zC, zD, zE, zF, zG, zH, zI, reduceCtorEq]) | apply And.intro | (intro hg; (try simp only [push_cast] at hg)))
  all_goals try exact gA
  all_goals first | (refine hK9 _ _ ?_; clear hK9 K9) | (simp only [push_cast]; done)
  all_goals refine lexU_cut 4 (by decide) fun K9 hK9 => ?_
  all_goals simp only [push_cast, ↓brB_true, ↓brB_false, ↓reduceIte, zA, zB, zC, zD, zE, zF, zG, zH, zI, reduceCtorEq]
  all_goals repeat' (first | (apply brB_mk <;> (intro hg; (try simp only [push_cast] at hg))) | (refine ⟨_, hAl, ?_⟩; simp only [push_cast, ↓brB_true, ↓brB_false, ↓reduceIte, zA, zB, zC, zD, zE, zF, zG, zH, zI, reduceCtorEq]) | apply And.intro | (intro hg; (try simp only [push_cast] at hg)))
  all_goals try exact gA
  all_goals first | (refine hK9 _ _ ?_; clear hK9 K9) | (simp only [push_cast]; done)
  all_goals refine lexU_cut 1 (by decide) fun K9 hK9 => ?_
  all_goals simp only [push_cast, ↓brB_true, ↓brB_false, ↓reduceIte, zA, zB, zC, zD, zE, zF, zG, zH, zI, reduceCtorEq]
  all_goals repeat' (first | (apply brB_mk <;> (intro hg; (try simp only [push_cast] at hg))) | (refine ⟨_, hWn, ?_⟩; simp only [push_cast, ↓brB_true, ↓brB_false, ↓reduceIte, zA, zB, zC, zD, zE, zF, zG, zH, zI, reduceCtorEq]) | apply And.intro | (intro hg; (try simp only [push_cast] at hg)))
  all_goals try exact gA
  all_goals first | (refine hK9 _ _ ?_; clear hK9 K9) | (simp only [push_cast]; done)
  all_goals simp only [push_cast, ↓brB_true, ↓brB_false, ↓reduceIte, zA, zB, zC, zD, zE, zF, zG, zH, zI, reduceCtorEq]
  all_goals repeat' (first | (apply brB_mk <;> (intro hg; (try simp only [push_cast] at hg))) | (refine ⟨_, _, hOf, ?_⟩; simp only [push_cast, ↓brB_true, ↓brB_false, ↓reduceIte, zA, zB, zC, zD, zE, zF, zG, zH, zI, reduceCtorEq]) | (refine ⟨_, hAl, ?_⟩; simp only [push_cast, ↓brB_true, ↓brB_false, ↓reduceIte, zA, zB, zC, zD, zE, zF, zG, zH, zI, reduceCtorEq]) | (refine ⟨_, hWn, ?_⟩; simp only [push_cast, ↓brB_true, ↓brB_false, ↓reduceIte, zA, zB, zC, zD, zE, zF, zG, zH, zI, reduceCtorEq]) | apply And.intro | (intro hg; (try simp only [push_cast] at hg)))
  all_goals first | exact gA | (refine hE _ _ ?_ ?_; kernel_rfl) | skip
  all_goals clear hE E
  all_goals first | (refine hK _ ?_; clear hK K) | (simp only [push_cast]; done)
  refine awp_seq' fun K hK => ?_
  refine awp_region tyOk tyPos [] rfl ?_
  simp only [push_cast, ↓brB_true, ↓brB_false, ↓reduceIte, zA, zB, zC, zD, zE, zF, zG, zH, zI, reduceCtorEq]
  repeat' apply And.intro
  all_goals try exact gB
  all_goals first | (refine hK _ ?_; clear hK K) | (simp only [push_cast]; done)
  refine awp_seq' fun K1 hK1 => ?_
  refine awp_seq' fun K hK => ?_
  refine awp_region tyOk tyPos [] rfl ?_
  simp only [push_cast, ↓brB_true, ↓brB_false, ↓reduceIte, zA, zB, zC, zD, zE, zF, zG, zH, zI, reduceCtorEq]
  repeat' apply And.intro
  all_goals try exact gB
  all_goals first | (refine hK _ ?_; clear hK K) | (simp only [push_cast]; done)
  refine awp_block ?_
  refine awp_loopU [4,5,14,15,16,17,18,19,20,21,22,23,24,25,26,27,28] [64] (fun (k : Nat) => [(5, .int .i64 k), (4, .sl 64 [] 0 k 2)]) (fun k => []) (fun k => [(64, ⟨.ex, 2, dI ((win.take k).map flagI), none⟩)]) (fun k => k ≤ win.length) (fun k => win.length - k) 0 ?_ (by omega) ?_
  ·
    rw [show dI ((win.take 0).map flagI) = [] from rfl]
    refine cov_of rfl ?_ ?_ ?_ <;> simp only [covS, covL, push_cast, ↓brB_true, ↓brB_false, ↓reduceIte, zA, zB, zC, zD, zE, zF, zG, zH, zI, reduceCtorEq]
  · rintro k hk KL0 hL0
    have hfl : ((win.take k).map flagI).length = k := by rw [List.length_map, List.length_take]; omega
    have hfn : flagI (gb win k) = 1 - (if gb win k = true then 1 else 0) := by cases gb win k <;> rfl
    simp only [push_cast, ↓brB_true, ↓brB_false, ↓reduceIte, zA, zB, zC, zD, zE, zF, zG, zH, zI, reduceCtorEq]
    refine awp_seq' fun K2 hK2 => ?_
    refine awp_seq' fun K hK => ?_
    refine awp_region tyOk tyPos [] rfl ?_
    simp only [push_cast, ↓brB_true, ↓brB_false, ↓reduceIte, zA, zB, zC, zD, zE, zF, zG, zH, zI, reduceCtorEq]
    repeat' apply And.intro
    all_goals try exact gB
    all_goals first | (refine hK _ ?_; clear hK K) | (simp only [push_cast]; done)
    refine awp_cond rfl (fun hc => ?_) (fun hc => ?_) <;> (try simp only [push_cast] at hc)
    ·
      refine awp_skip ?_
      (try simp only [AThen, ABlk, reduceIte, zF]); refine hK2 _ ?_
      refine awp_seq' fun K3 hK3 => ?_
      refine awp_block ?_
      refine awp_region tyOk tyPos [] rfl ?_
      all_goals refine aops_cut 6 fun K9 hK9 => ?_
      all_goals simp only [push_cast, ↓brB_true, ↓brB_false, ↓reduceIte, zA, zB, zC, zD, zE, zF, zG, zH, zI, reduceCtorEq]
      all_goals repeat' (first | (apply brB_mk <;> (intro hg; (try simp only [push_cast] at hg))) | (refine ⟨_, l1Flag_fn _, ?_⟩; simp only [push_cast, ↓brB_true, ↓brB_false, ↓reduceIte, zA, zB, zC, zD, zE, zF, zG, zH, zI, reduceCtorEq]) | apply And.intro | (intro hg; (try simp only [push_cast] at hg)))
      all_goals try exact gA
      all_goals first | (refine hK9 _ ?_; clear hK9 K9) | (simp only [push_cast]; done)
      all_goals simp only [push_cast, ↓brB_true, ↓brB_false, ↓reduceIte, zA, zB, zC, zD, zE, zF, zG, zH, zI, reduceCtorEq]
      all_goals repeat' (first | (apply brB_mk <;> (intro hg; (try simp only [push_cast] at hg))) | (refine ⟨_, l1Flag_fn _, ?_⟩; simp only [push_cast, ↓brB_true, ↓brB_false, ↓reduceIte, zA, zB, zC, zD, zE, zF, zG, zH, zI, reduceCtorEq]) | apply And.intro | (intro hg; (try simp only [push_cast] at hg)))
      all_goals try exact gA
      (try simp only [AThen, ABlk, reduceIte, zF]); refine hK3 _ ?_
      refine awp_region tyOk tyPos [] rfl ?_
      simp only [push_cast, ↓brB_true, ↓brB_false, ↓reduceIte, zA, zB, zC, zD, zE, zF, zG, zH, zI, reduceCtorEq]
      repeat' apply And.intro
      all_goals try exact gB
      refine hL0 _ ⟨k + 1, by omega, by omega, ?_⟩
      (try rw [List.take_of_length_le (l := (win.take k).map flagI) (by omega)])
      rw [take_flagB (by omega), hfn]
      refine cov_of rfl ?_ ?_ ?_ <;> simp only [covS, covL, push_cast, ↓brB_true, ↓brB_false, ↓reduceIte, zA, zB, zC, zD, zE, zF, zG, zH, zI, reduceCtorEq]
      all_goals first | rfl | (simp; done)
    ·
      refine awp_exit ?_
      have hkk : k = win.length := by omega
      subst hkk
      rw [List.take_length]
      (try simp only [AThen, ABlk, reduceIte, zF]); refine hK1 _ ?_
      refine awp_seq' fun K hK => ?_
      refine awp_region tyOk tyPos [] rfl ?_
      simp only [push_cast, ↓brB_true, ↓brB_false, ↓reduceIte, zA, zB, zC, zD, zE, zF, zG, zH, zI, reduceCtorEq]
      repeat' apply And.intro
      all_goals try exact gB
      all_goals first | (refine hK _ ?_; clear hK K) | (simp only [push_cast]; done)
      refine awp_ret ?_
      (try simp only [AThen, ABlk])
      refine ⟨Or.inl rfl, ?_⟩
      simp only [RetOk, push_cast, ↓brB_true, ↓brB_false, ↓reduceIte, zA, zB, zC, zD, zE, zF, zG, zH, zI, reduceCtorEq]
      all_goals first | rfl | exact ⟨rfl, by simp⟩ | (simp; done)
set_option maxRecDepth 20000 in
set_option maxHeartbeats 4000000 in
theorem OnlyBy_fn (g : Pa) (hg : g.Ln 1048576) (hok : parityB g = true) : Fn Try.prog tyT 145 [.agg (dPa g), .c (DI (noP g.prio.length))] [.agg (dPa g), .c (.bool true)] := by
  obtain ⟨hao, hpl, hpr⟩ := parityB_facts hok
  have hal := arenaB_len hao
  have hP := ParityOkS_fn g hg
  rw [hok] at hP
  have hPk := l7Picks_fn g hg
  have hp9 := hg.prio
  have ho9 := hg.a.owner
  have hx9 := hg.a.next
  have hC1 := l1Copy_fn g.a.owner ho9
  have hC2 := l1Copy_fn g.prio hp9
  have hC3 := fun v (hv : v < g.a.next.length) => l1Copy_fn (gl g.a.next v) (LnII_gl hx9 hv)
  unfold LnI at hp9 ho9
  have hnl := noP_len g.prio.length
  have hng := noP_gi g.prio.length
  generalize noP g.prio.length = ps at hnl hng hPk ⊢
  unfold dPa at hP hPk ⊢
  refine Fn_ofR (fn := Try.f145) (rs := [.cell 4 69, .tmp 5]) tyOk tyPos Try.func145 (by kernel_rfl) rfl rfl (by rw [Try.ntmps145]; exact Nat.le_of_ble_eq_true rfl) rfl (by simp only [szA, List.mem_cons, List.not_mem_nil, or_false, forall_eq_or_imp, forall_eq, VT.cells, szL]; try decide) ?_
  rw [Try.ntmps145]
  simp only [push_cast, ↓brB_true, ↓brB_false, ↓reduceIte, zA, zB, zC, zD, zE, zF, zG, zH, zI, reduceCtorEq]
  refine awp_seq' fun K hK => ?_
  refine awp_region tyOk tyPos [] rfl ?_
  all_goals simp only [push_cast, ↓brB_true, ↓brB_false, ↓reduceIte, zA, zB, zC, zD, zE, zF, zG, zH, zI, reduceCtorEq]
  all_goals repeat' (first | (apply brB_mk <;> (intro hg; (try simp only [push_cast] at hg))) | apply And.intro | (intro hg; (try simp only [push_cast] at hg)))
  all_goals first | exact gA | (exact getE_dII (by omega)) | skip
  all_goals first | (refine hK _ ?_; clear hK K) | (simp only [push_cast]; done)
  refine awp_seq' fun K1 hK1 => ?_
  refine awp_seq' fun K hK => ?_
  refine awp_regionN false tyOk tyPos ?_ rfl ?_
  · kernel_rfl
  all_goals refine seqE_cut 2 fun K9 hK9 => ?_
  all_goals simp only [push_cast, ↓brB_true, ↓brB_false, ↓reduceIte, zA, zB, zC, zD, zE, zF, zG, zH, zI, reduceCtorEq]
  all_goals repeat' (first | (apply brB_mk <;> (intro hg; (try simp only [push_cast] at hg))) | (refine ⟨_, hP, ?_⟩; simp only [push_cast, ↓brB_true, ↓brB_false, ↓reduceIte, zA, zB, zC, zD, zE, zF, zG, zH, zI, reduceCtorEq]) | (refine ⟨_, hPk, ?_⟩; simp only [push_cast, ↓brB_true, ↓brB_false, ↓reduceIte, zA, zB, zC, zD, zE, zF, zG, zH, zI, reduceCtorEq]) | apply And.intro | (intro hg; (try simp only [push_cast] at hg)))
  all_goals first | exact gA | (exact getE_dII (by omega)) | skip
  all_goals first | (refine hK9 _ ?_; clear hK9 K9) | (simp only [push_cast]; done)
  all_goals refine seqE_cut 5 fun K9 hK9 => ?_
  all_goals simp only [push_cast, ↓brB_true, ↓brB_false, ↓reduceIte, zA, zB, zC, zD, zE, zF, zG, zH, zI, reduceCtorEq]
  all_goals repeat' (first | (apply brB_mk <;> (intro hg; (try simp only [push_cast] at hg))) | (refine ⟨_, hP, ?_⟩; simp only [push_cast, ↓brB_true, ↓brB_false, ↓reduceIte, zA, zB, zC, zD, zE, zF, zG, zH, zI, reduceCtorEq]) | (refine ⟨_, hPk, ?_⟩; simp only [push_cast, ↓brB_true, ↓brB_false, ↓reduceIte, zA, zB, zC, zD, zE, zF, zG, zH, zI, reduceCtorEq]) | apply And.intro | (intro hg; (try simp only [push_cast] at hg)))
  all_goals first | exact gA | (exact getE_dII (by omega)) | skip
  all_goals first | (refine hK9 _ ?_; clear hK9 K9) | (simp only [push_cast]; done)
  all_goals simp only [push_cast, ↓brB_true, ↓brB_false, ↓reduceIte, zA, zB, zC, zD, zE, zF, zG, zH, zI, reduceCtorEq]
  all_goals repeat' (first | (apply brB_mk <;> (intro hg; (try simp only [push_cast] at hg))) | (refine ⟨_, hP, ?_⟩; simp only [push_cast, ↓brB_true, ↓brB_false, ↓reduceIte, zA, zB, zC, zD, zE, zF, zG, zH, zI, reduceCtorEq]) | (refine ⟨_, hPk, ?_⟩; simp only [push_cast, ↓brB_true, ↓brB_false, ↓reduceIte, zA, zB, zC, zD, zE, zF, zG, zH, zI, reduceCtorEq]) | apply And.intro | (intro hg; (try simp only [push_cast] at hg)))
  all_goals first | exact gA | (exact getE_dII (by omega)) | skip
  all_goals first | (refine hK _ ?_; clear hK K) | (simp only [push_cast]; done)
  all_goals (
      refine awp_cond rfl (fun hc => ?_) (fun hc => ?_)
      skip
      · exfalso; first | (cases hc; done) | (simp only [push_cast] at hc; done) | (simp only [push_cast] at hc; omega) | omega
      refine awp_skip ?_
      (try simp only [AThen, ABlk, reduceIte, zF]); refine hK1 _ ?_
      refine awp_seq' fun K hK => ?_
      refine awp_regionD1 false tyOk tyPos tyMix ?_ rfl ?_
      · kernel_rfl
      intro E hE
      all_goals refine lexF_cut 4 (by decide) fun K9 hK9 => ?_
      all_goals simp only [push_cast, ↓brB_true, ↓brB_false, ↓reduceIte, zA, zB, zC, zD, zE, zF, zG, zH, zI, reduceCtorEq]
      all_goals repeat' (first | (apply brB_mk <;> (intro hg; (try simp only [push_cast] at hg))) | (refine ⟨_, hC1, ?_⟩; simp only [push_cast, ↓brB_true, ↓brB_false, ↓reduceIte, zA, zB, zC, zD, zE, zF, zG, zH, zI, reduceCtorEq]) | (refine ⟨_, hC2, ?_⟩; simp only [push_cast, ↓brB_true, ↓brB_false, ↓reduceIte, zA, zB, zC, zD, zE, zF, zG, zH, zI, reduceCtorEq]) | apply And.intro | (intro hg; (try simp only [push_cast] at hg)))
      all_goals first | exact gA | (exact getE_dII (by omega)) | skip
      all_goals first | (refine hK9 _ _ ?_; clear hK9 K9) | (simp only [push_cast]; done)
      all_goals refine lexF_cut 4 (by decide) fun K9 hK9 => ?_
      all_goals simp only [push_cast, ↓brB_true, ↓brB_false, ↓reduceIte, zA, zB, zC, zD, zE, zF, zG, zH, zI, reduceCtorEq]
      all_goals repeat' (first | (apply brB_mk <;> (intro hg; (try simp only [push_cast] at hg))) | (refine ⟨_, hC1, ?_⟩; simp only [push_cast, ↓brB_true, ↓brB_false, ↓reduceIte, zA, zB, zC, zD, zE, zF, zG, zH, zI, reduceCtorEq]) | (refine ⟨_, hC2, ?_⟩; simp only [push_cast, ↓brB_true, ↓brB_false, ↓reduceIte, zA, zB, zC, zD, zE, zF, zG, zH, zI, reduceCtorEq]) | apply And.intro | (intro hg; (try simp only [push_cast] at hg)))
      all_goals first | exact gA | (exact getE_dII (by omega)) | skip
      all_goals first | (refine hK9 _ _ ?_; clear hK9 K9) | (simp only [push_cast]; done)
      all_goals simp only [push_cast, ↓brB_true, ↓brB_false, ↓reduceIte, zA, zB, zC, zD, zE, zF, zG, zH, zI, reduceCtorEq]
      all_goals repeat' (first | (apply brB_mk <;> (intro hg; (try simp only [push_cast] at hg))) | (refine ⟨_, hC1, ?_⟩; simp only [push_cast, ↓brB_true, ↓brB_false, ↓reduceIte, zA, zB, zC, zD, zE, zF, zG, zH, zI, reduceCtorEq]) | (refine ⟨_, hC2, ?_⟩; simp only [push_cast, ↓brB_true, ↓brB_false, ↓reduceIte, zA, zB, zC, zD, zE, zF, zG, zH, zI, reduceCtorEq]) | apply And.intro | (intro hg; (try simp only [push_cast] at hg)))
      all_goals first | exact gA | (refine hE _ _ ?_ ?_; kernel_rfl) | (exact getE_dII (by omega)) | skip
      all_goals clear hE E
      all_goals first | (refine hK _ ?_; clear hK K) | (simp only [push_cast]; done)
      refine awp_settleB [.sl 2, .sl 27, .sl 2] 6 ?_
      simp only [push_cast, ↓brB_true, ↓brB_false, ↓reduceIte, zA, zB, zC, zD, zE, zF, zG, zH, zI, reduceCtorEq]
      refine awp_seq' fun K2 hK2 => ?_
      refine awp_seq' fun K hK => ?_
      refine awp_region tyOk tyPos [] rfl ?_
      all_goals simp only [push_cast, ↓brB_true, ↓brB_false, ↓reduceIte, zA, zB, zC, zD, zE, zF, zG, zH, zI, reduceCtorEq]
      all_goals repeat' (first | (apply brB_mk <;> (intro hg; (try simp only [push_cast] at hg))) | apply And.intro | (intro hg; (try simp only [push_cast] at hg)))
      all_goals first | exact gA | (exact getE_dII (by omega)) | skip
      all_goals first | (refine hK _ ?_; clear hK K) | (simp only [push_cast]; done)
      refine awp_block ?_
      refine awp_loopU [6,7,8,12,28,29,30,31,32,33,34,35,36,37,38,39,40,41,42,43,44,45,46,47,48,49,50,51,52,53,54,55,56,57,58] [96,97,98] (fun (v : Nat) => [(7, .int .i64 v), (6, .bp 6 0)]) (fun v => [(6, [.sl 96 [] 0 g.a.owner.length 2, .sl 97 [] 0 v 27, .sl 98 [] 0 g.prio.length 2])]) (fun v => [(96, ⟨.ex, 2, dI g.a.owner, none⟩), (97, ⟨.ex, 27, dII (g.a.next.take v), none⟩), (98, ⟨.ex, 2, dI g.prio, none⟩)]) (fun v => v ≤ g.a.next.length) (fun v => g.a.next.length - v) 0 ?_ (by omega) ?_
      ·
        rw [show dII (g.a.next.take 0) = [] from rfl]
        refine cov_of rfl ?_ ?_ ?_ <;> simp only [covS, covL, push_cast, ↓brB_true, ↓brB_false, ↓reduceIte, zA, zB, zC, zD, zE, zF, zG, zH, zI, reduceCtorEq]
      · rintro v hv KL0 hL0
        have htl : (g.a.next.take v).length = v := by rw [List.length_take]; omega
        simp only [push_cast, ↓brB_true, ↓brB_false, ↓reduceIte, zA, zB, zC, zD, zE, zF, zG, zH, zI, reduceCtorEq]
        refine awp_seq' fun K3 hK3 => ?_
        refine awp_seq' fun K hK => ?_
        refine awp_region tyOk tyPos [] rfl ?_
        all_goals simp only [push_cast, ↓brB_true, ↓brB_false, ↓reduceIte, zA, zB, zC, zD, zE, zF, zG, zH, zI, reduceCtorEq]
        all_goals repeat' (first | (apply brB_mk <;> (intro hg; (try simp only [push_cast] at hg))) | apply And.intro | (intro hg; (try simp only [push_cast] at hg)))
        all_goals first | exact gA | (exact getE_dII (by omega)) | skip
        all_goals first | (refine hK _ ?_; clear hK K) | (simp only [push_cast]; done)
        refine awp_cond rfl (fun hc => ?_) (fun hc => ?_) <;> (try simp only [push_cast] at hc)
        ·
          refine awp_skip ?_
          (try simp only [AThen, ABlk, reduceIte, zF]); refine hK3 _ ?_
          refine awp_seq' fun K4 hK4 => ?_
          refine awp_block ?_
          refine awp_seq' fun K hK => ?_
          refine awp_region tyOk tyPos [] rfl ?_
          all_goals refine aops_cut 7 fun K9 hK9 => ?_
          all_goals simp only [push_cast, ↓brB_true, ↓brB_false, ↓reduceIte, zA, zB, zC, zD, zE, zF, zG, zH, zI, reduceCtorEq]
          all_goals repeat' (first | (apply brB_mk <;> (intro hg; (try simp only [push_cast] at hg))) | (refine ⟨_, hC3 v (by omega), ?_⟩; simp only [push_cast, ↓brB_true, ↓brB_false, ↓reduceIte, zA, zB, zC, zD, zE, zF, zG, zH, zI, reduceCtorEq]) | apply And.intro | (intro hg; (try simp only [push_cast] at hg)))
          all_goals first | exact gA | (exact getE_dII (by omega)) | skip
          all_goals first | (refine hK9 _ ?_; clear hK9 K9) | (simp only [push_cast]; done)
          all_goals simp only [push_cast, ↓brB_true, ↓brB_false, ↓reduceIte, zA, zB, zC, zD, zE, zF, zG, zH, zI, reduceCtorEq]
          all_goals repeat' (first | (apply brB_mk <;> (intro hg; (try simp only [push_cast] at hg))) | (refine ⟨_, hC3 v (by omega), ?_⟩; simp only [push_cast, ↓brB_true, ↓brB_false, ↓reduceIte, zA, zB, zC, zD, zE, zF, zG, zH, zI, reduceCtorEq]) | apply And.intro | (intro hg; (try simp only [push_cast] at hg)))
          all_goals first | exact gA | (exact getE_dII (by omega)) | skip
          all_goals first | (refine hK _ ?_; clear hK K) | (simp only [push_cast]; done)
          refine awp_seq' fun K5 hK5 => ?_
          have hpk := hng v (by omega)
          refine awp_seq' fun K hK => ?_
          refine awp_region tyOk tyPos [] rfl ?_
          all_goals simp only [push_cast, ↓brB_true, ↓brB_false, ↓reduceIte, zA, zB, zC, zD, zE, zF, zG, zH, zI, reduceCtorEq]
          all_goals repeat' (first | (apply brB_mk <;> (intro hg; (try simp only [push_cast] at hg))) | apply And.intro | (intro hg; (try simp only [push_cast] at hg)))
          all_goals first | exact gA | (exact getE_dII (by omega)) | skip
          all_goals first | (refine hK _ ?_; clear hK K) | (simp only [push_cast]; done)
          refine awp_cond rfl (fun hc => ?_) (fun hc => ?_)
          skip
          · exfalso; first | (cases hc; done) | (simp only [push_cast] at hc; done) | (simp only [push_cast] at hc; omega) | omega
          refine awp_skip ?_
          (try simp only [AThen, ABlk, reduceIte, zF]); refine hK5 _ ?_
          refine awp_regionN false tyOk tyPos ?_ rfl ?_
          · kernel_rfl
          simp only [push_cast, ↓brB_true, ↓brB_false, ↓reduceIte, zA, zB, zC, zD, zE, zF, zG, zH, zI, reduceCtorEq]
          all_goals repeat' (first | (apply brB_mk <;> (intro hg; (try simp only [push_cast] at hg))) | apply And.intro | (intro hg; (try simp only [push_cast] at hg)))
          all_goals first | exact gA | (exact getE_dII (by omega)) | skip
          (try simp only [AThen, ABlk, reduceIte, zF]); refine hK4 _ ?_
          refine awp_settleB [.sl 2, .sl 27, .sl 2] 6 ?_
          simp only [push_cast, ↓brB_true, ↓brB_false, ↓reduceIte, zA, zB, zC, zD, zE, zF, zG, zH, zI, reduceCtorEq]
          refine awp_region tyOk tyPos [] rfl ?_
          all_goals simp only [push_cast, ↓brB_true, ↓brB_false, ↓reduceIte, zA, zB, zC, zD, zE, zF, zG, zH, zI, reduceCtorEq]
          all_goals repeat' (first | (apply brB_mk <;> (intro hg; (try simp only [push_cast] at hg))) | apply And.intro | (intro hg; (try simp only [push_cast] at hg)))
          all_goals first | exact gA | (exact getE_dII (by omega)) | skip
          refine hL0 _ ⟨v + 1, by omega, by omega, ?_⟩
          (try rw [List.take_of_length_le (l := g.a.next.take v) (by omega)])
          rw [take_snocL (xs := g.a.next) (k := v) (by omega)]
          refine cov_of rfl ?_ ?_ ?_ <;> simp only [covS, covL, push_cast, ↓brB_true, ↓brB_false, ↓reduceIte, zA, zB, zC, zD, zE, zF, zG, zH, zI, reduceCtorEq]
        ·
          refine awp_exit ?_
          have hvv : v = g.a.next.length := by omega
          subst hvv
          rw [List.take_length]
          (try simp only [AThen, ABlk, reduceIte, zF]); refine hK2 _ ?_
          refine awp_seq' fun K hK => ?_
          refine awp_region tyOk tyPos [] rfl ?_
          all_goals simp only [push_cast, ↓brB_true, ↓brB_false, ↓reduceIte, zA, zB, zC, zD, zE, zF, zG, zH, zI, reduceCtorEq]
          all_goals repeat' (first | (apply brB_mk <;> (intro hg; (try simp only [push_cast] at hg))) | apply And.intro | (intro hg; (try simp only [push_cast] at hg)))
          all_goals first | exact gA | (exact getE_dII (by omega)) | skip
          all_goals first | (refine hK _ ?_; clear hK K) | (simp only [push_cast]; done)
          refine awp_ret ?_
          (try simp only [AThen, ABlk])
          refine ⟨Or.inl rfl, ?_⟩
          simp only [RetOk, resVars, resVar, push_cast, ↓brB_true, ↓brB_false, ↓reduceIte, zA, zB, zC, zD, zE, zF, zG, zH, zI, reduceCtorEq]
          all_goals first | rfl | decide | skip)
set_option maxRecDepth 20000 in
set_option maxHeartbeats 4000000 in
theorem KeepsWon_fn (g : Pa) (hg : g.Ln 1048576) (hok : parityB g = true) : Fn Try.prog tyT 129 [.agg (dPa g), .c (DI (noP g.prio.length))] [.c (.bool true)] := by
  obtain ⟨hao, hpl, hpr⟩ := parityB_facts hok
  have hal := arenaB_len hao
  have hO := OnlyBy_fn g hg hok
  have hW := l7Won_fn g hok
  have hwl := wonG_len g
  have hS := l7Same_fn (wonG g) (wonG g) (by omega) (by omega)
  rw [decide_eq_true rfl] at hS
  unfold dPa at hO hW ⊢
  refine Fn_of (fn := Try.f129) (ts := [4]) Try.func129 (by kernel_rfl) rfl rfl (by rw [Try.ntmps129]; exact Nat.le_of_ble_eq_true rfl) rfl (by simp only [szA, List.mem_cons, List.not_mem_nil, or_false, forall_eq_or_imp, forall_eq, VT.cells, szL]; try decide) ?_
  rw [Try.ntmps129]
  simp only [push_cast, ↓brB_true, ↓brB_false, ↓reduceIte, zA, zB, zC, zD, zE, zF, zG, zH, zI, reduceCtorEq]
  refine awp_seq' fun K hK => ?_
  refine awp_region tyOk tyPos [] rfl ?_
  simp only [push_cast, ↓brB_true, ↓brB_false, ↓reduceIte, zA, zB, zC, zD, zE, zF, zG, zH, zI, reduceCtorEq]
  repeat' apply And.intro
  all_goals try exact gB
  all_goals first | (refine hK _ ?_; clear hK K) | (simp only [push_cast]; done)
  refine awp_seq' fun K hK => ?_
  refine awp_region tyOk tyPos [] rfl ?_
  all_goals refine aops_cut 3 fun K9 hK9 => ?_
  all_goals simp only [push_cast, ↓brB_true, ↓brB_false, ↓reduceIte, zA, zB, zC, zD, zE, zF, zG, zH, zI, reduceCtorEq]
  all_goals repeat' (first | (apply brB_mk <;> (intro hg; (try simp only [push_cast] at hg))) | (refine ⟨_, hO, ?_⟩; simp only [push_cast, ↓brB_true, ↓brB_false, ↓reduceIte, zA, zB, zC, zD, zE, zF, zG, zH, zI, reduceCtorEq]) | apply And.intro | (intro hg; (try simp only [push_cast] at hg)))
  all_goals try exact gA
  all_goals first | (refine hK9 _ ?_; clear hK9 K9) | (simp only [push_cast]; done)
  all_goals simp only [push_cast, ↓brB_true, ↓brB_false, ↓reduceIte, zA, zB, zC, zD, zE, zF, zG, zH, zI, reduceCtorEq]
  all_goals repeat' (first | (apply brB_mk <;> (intro hg; (try simp only [push_cast] at hg))) | (refine ⟨_, hO, ?_⟩; simp only [push_cast, ↓brB_true, ↓brB_false, ↓reduceIte, zA, zB, zC, zD, zE, zF, zG, zH, zI, reduceCtorEq]) | apply And.intro | (intro hg; (try simp only [push_cast] at hg)))
  all_goals try exact gA
  all_goals first | (refine hK _ ?_; clear hK K) | (simp only [push_cast]; done)
  refine awp_seq' fun K hK => ?_
  refine awp_regionD1 false tyOk tyPos tyMix ?_ rfl ?_
  · kernel_rfl
  intro E hE
  all_goals refine lexF_cut 4 (by decide) fun K9 hK9 => ?_
  all_goals simp only [push_cast, ↓brB_true, ↓brB_false, ↓reduceIte, zA, zB, zC, zD, zE, zF, zG, zH, zI, reduceCtorEq]
  all_goals repeat' (first | (apply brB_mk <;> (intro hg; (try simp only [push_cast] at hg))) | (refine ⟨_, hW, ?_⟩; simp only [push_cast, ↓brB_true, ↓brB_false, ↓reduceIte, zA, zB, zC, zD, zE, zF, zG, zH, zI, reduceCtorEq]) | apply And.intro | (intro hg; (try simp only [push_cast] at hg)))
  all_goals try exact gA
  all_goals first | (refine hK9 _ _ ?_; clear hK9 K9) | (simp only [push_cast]; done)
  all_goals refine lexF_cut 2 (by decide) fun K9 hK9 => ?_
  all_goals simp only [push_cast, ↓brB_true, ↓brB_false, ↓reduceIte, zA, zB, zC, zD, zE, zF, zG, zH, zI, reduceCtorEq]
  all_goals repeat' (first | (apply brB_mk <;> (intro hg; (try simp only [push_cast] at hg))) | (refine ⟨_, hW, ?_⟩; simp only [push_cast, ↓brB_true, ↓brB_false, ↓reduceIte, zA, zB, zC, zD, zE, zF, zG, zH, zI, reduceCtorEq]) | apply And.intro | (intro hg; (try simp only [push_cast] at hg)))
  all_goals try exact gA
  all_goals first | (refine hK9 _ _ ?_; clear hK9 K9) | (simp only [push_cast]; done)
  all_goals refine lexF_cut 1 (by decide) fun K9 hK9 => ?_
  all_goals simp only [push_cast, ↓brB_true, ↓brB_false, ↓reduceIte, zA, zB, zC, zD, zE, zF, zG, zH, zI, reduceCtorEq]
  all_goals repeat' (first | (apply brB_mk <;> (intro hg; (try simp only [push_cast] at hg))) | (refine ⟨_, hS, ?_⟩; simp only [push_cast, ↓brB_true, ↓brB_false, ↓reduceIte, zA, zB, zC, zD, zE, zF, zG, zH, zI, reduceCtorEq]) | apply And.intro | (intro hg; (try simp only [push_cast] at hg)))
  all_goals try exact gA
  all_goals first | (refine hK9 _ _ ?_; clear hK9 K9) | (simp only [push_cast]; done)
  all_goals simp only [push_cast, ↓brB_true, ↓brB_false, ↓reduceIte, zA, zB, zC, zD, zE, zF, zG, zH, zI, reduceCtorEq]
  all_goals repeat' (first | (apply brB_mk <;> (intro hg; (try simp only [push_cast] at hg))) | (refine ⟨_, hW, ?_⟩; simp only [push_cast, ↓brB_true, ↓brB_false, ↓reduceIte, zA, zB, zC, zD, zE, zF, zG, zH, zI, reduceCtorEq]) | (refine ⟨_, hS, ?_⟩; simp only [push_cast, ↓brB_true, ↓brB_false, ↓reduceIte, zA, zB, zC, zD, zE, zF, zG, zH, zI, reduceCtorEq]) | apply And.intro | (intro hg; (try simp only [push_cast] at hg)))
  all_goals first | exact gA | (refine hE _ _ ?_ ?_; kernel_rfl) | skip
  all_goals clear hE E
  all_goals first | (refine hK _ ?_; clear hK K) | (simp only [push_cast]; done)
  all_goals (
      refine awp_ret ?_
      (try simp only [AThen, ABlk])
      refine ⟨Or.inl rfl, ?_⟩
      simp only [RetOk, push_cast, ↓brB_true, ↓brB_false, ↓reduceIte, zA, zB, zC, zD, zE, zF, zG, zH, zI, reduceCtorEq])
set_option maxRecDepth 20000 in
set_option maxHeartbeats 4000000 in
theorem l7Pick_fn (x : L7) (inn : List Bool) (hx : x.Ok inn.length) (v : Nat) (hv : v < inn.length) (r : Int × List Int) (hr : pickF x inn v (gl x.next v).length 0 = r) : FnG Try.prog tyT 133 [.agg (dL7 x), .c (.lst 4 (dB inn)), .c (.int .i64 v)] [4] [(4, 2, dI r.2)] [.c (.int .i64 r.1)] := by
  have hn1 := hx.hn
  have hn2 := hx.ho
  have hn4 := hx.hx
  have hn6 := hx.hk
  have hdeg := hx.deg v hv
  have hto := hx.to v hv
  have hH := fun u => l7Holds_fn (setP x (x.pick.set v u)) inn (setP_ok hx (by rw [List.length_set]; exact hx.hk)) (inn.length + 1) (Nat.lt_succ_of_le (cntB_top _ _)) (gi x.owner v)
  obtain ⟨hb, hbe⟩ : ∃ hb : Int → Bool, ∀ u, hb u = holdB inn (winL (setP x (x.pick.set v u)) inn.length (inn.length + 1) inn) (gi x.owner v) := ⟨_, fun _ => rfl⟩
  simp only [← hbe] at hH
  unfold dL7 setP at hH
  dsimp only at hH
  unfold dL7
  refine FnG_of (fn := Try.f133) (rs := [.tmp 6]) (own := [4]) (outs := [(4, 2, dI r.2)]) tyOk tyPos Try.func133 (by kernel_rfl) rfl rfl (by rw [Try.ntmps133]; exact Nat.le_of_ble_eq_true rfl) rfl (by simp only [szA, List.mem_cons, List.not_mem_nil, or_false, forall_eq_or_imp, forall_eq, VT.cells, szL]; try decide) ?_
  rw [Try.ntmps133]
  simp only [push_cast, ↓brB_true, ↓brB_false, ↓reduceIte, zA, zB, zC, zD, zE, zF, zG, zH, zI, reduceCtorEq]
  refine awp_seq' fun K hK => ?_
  refine awp_region tyOk tyPos [] rfl ?_
  all_goals simp only [push_cast, ↓brB_true, ↓brB_false, ↓reduceIte, zA, zB, zC, zD, zE, zF, zG, zH, zI, reduceCtorEq]
  all_goals repeat' (first | (apply brB_mk <;> (intro hg; (try simp only [push_cast] at hg))) | apply And.intro | (intro hg; (try simp only [push_cast] at hg)))
  all_goals first | exact gA | (exact getE_dII (by omega)) | skip
  all_goals first | (refine hK _ ?_; clear hK K) | (simp only [push_cast]; done)
  refine awp_seq' fun K1 hK1 => ?_
  refine awp_seq' fun K hK => ?_
  refine awp_region tyOk tyPos [] rfl ?_
  all_goals simp only [push_cast, ↓brB_true, ↓brB_false, ↓reduceIte, zA, zB, zC, zD, zE, zF, zG, zH, zI, reduceCtorEq]
  all_goals repeat' (first | (apply brB_mk <;> (intro hg; (try simp only [push_cast] at hg))) | apply And.intro | (intro hg; (try simp only [push_cast] at hg)))
  all_goals first | exact gA | (exact getE_dII (by omega)) | skip
  all_goals first | (refine hK _ ?_; clear hK K) | (simp only [push_cast]; done)
  refine awp_block ?_
  refine awp_loopU [6,7,8,9,10,11,12,13,14,15,16,17,18,19,20,21,22,23,24,25,26,27,28,29,30,31,32,33,34,35,36,37,38,39,40,41,42,43,44,45] [4] (fun (i : Nat) => [(7, .int .i64 i), (3, .bp 3 0)]) (fun i => []) (fun i => [(4, ⟨.ex, 2, dI (pickS x inn v i), some 4⟩)]) (fun i => i ≤ (gl x.next v).length ∧ pickF x inn v ((gl x.next v).length - i) i = r) (fun i => (gl x.next v).length - i) 0 ?_ ⟨Nat.zero_le _, hr⟩ ?_
  ·
    rw [show pickS x inn v 0 = x.pick from rfl]
    skip
    refine cov_of rfl ?_ ?_ ?_ <;> simp only [covS, covL, push_cast, ↓brB_true, ↓brB_false, ↓reduceIte, zA, zB, zC, zD, zE, zF, zG, zH, zI, reduceCtorEq]
  · rintro i ⟨hi, hrr⟩ KL0 hL0
    have hsl := pickS_len x inn v i
    simp only [push_cast, ↓brB_true, ↓brB_false, ↓reduceIte, zA, zB, zC, zD, zE, zF, zG, zH, zI, reduceCtorEq]
    refine awp_seq' fun K2 hK2 => ?_
    refine awp_seq' fun K hK => ?_
    refine awp_region tyOk tyPos [] rfl ?_
    all_goals simp only [push_cast, ↓brB_true, ↓brB_false, ↓reduceIte, zA, zB, zC, zD, zE, zF, zG, zH, zI, reduceCtorEq]
    all_goals repeat' (first | (apply brB_mk <;> (intro hg; (try simp only [push_cast] at hg))) | apply And.intro | (intro hg; (try simp only [push_cast] at hg)))
    all_goals first | exact gA | (exact getE_dII (by omega)) | skip
    all_goals first | (refine hK _ ?_; clear hK K) | (simp only [push_cast]; done)
    refine awp_cond rfl (fun hc => ?_) (fun hc => ?_) <;> (try simp only [push_cast] at hc)
    ·
      refine awp_skip ?_
      (try simp only [AThen, ABlk, reduceIte, zF]); refine hK2 _ ?_
      refine awp_seq' fun K3 hK3 => ?_
      refine awp_block ?_
      refine awp_seq' fun K hK => ?_
      refine awp_region tyOk tyPos [] rfl ?_
      all_goals simp only [push_cast, ↓brB_true, ↓brB_false, ↓reduceIte, zA, zB, zC, zD, zE, zF, zG, zH, zI, reduceCtorEq]
      all_goals repeat' (first | (apply brB_mk <;> (intro hg; (try simp only [push_cast] at hg))) | apply And.intro | (intro hg; (try simp only [push_cast] at hg)))
      all_goals first | exact gA | (exact getE_dII (by omega)) | skip
      all_goals first | (refine hK _ ?_; clear hK K) | (simp only [push_cast]; done)
      refine awp_seq' fun K4 hK4 => ?_
      have hti := hto i (by omega)
      refine awp_seq' fun K hK => ?_
      refine awp_region tyOk tyPos [] rfl ?_
      all_goals simp only [push_cast, ↓brB_true, ↓brB_false, ↓reduceIte, zA, zB, zC, zD, zE, zF, zG, zH, zI, reduceCtorEq]
      all_goals repeat' (first | (apply brB_mk <;> (intro hg; (try simp only [push_cast] at hg))) | apply And.intro | (intro hg; (try simp only [push_cast] at hg)))
      all_goals first | exact gA | (exact getE_dII (by omega)) | skip
      all_goals first | (refine hK _ ?_; clear hK K) | (simp only [push_cast]; done)
      refine awp_cond rfl (fun hc => ?_) (fun hc => ?_) <;> (try simp only [push_cast] at hc)
      ·
        refine awp_exit ?_
        (try simp only [AThen, ABlk, reduceIte, zF]); refine hK3 _ ?_
        refine awp_region tyOk tyPos [] rfl ?_
        all_goals simp only [push_cast, ↓brB_true, ↓brB_false, ↓reduceIte, zA, zB, zC, zD, zE, zF, zG, zH, zI, reduceCtorEq]
        all_goals repeat' (first | (apply brB_mk <;> (intro hg; (try simp only [push_cast] at hg))) | apply And.intro | (intro hg; (try simp only [push_cast] at hg)))
        all_goals first | exact gA | (exact getE_dII (by omega)) | skip
        refine hL0 _ ⟨i + 1, ⟨by omega, pickF_no (by omega) hrr (try_in (by with_reducible assumption))⟩, by omega, ?_⟩
        rw [pickS_no (by with_reducible assumption)]
        refine cov_of rfl ?_ ?_ ?_ <;> simp only [covS, covL, push_cast, ↓brB_true, ↓brB_false, ↓reduceIte, zA, zB, zC, zD, zE, zF, zG, zH, zI, reduceCtorEq]
      ·
        refine awp_skip ?_
        (try simp only [AThen, ABlk, reduceIte, zF]); refine hK4 _ ?_
        refine awp_seq' fun K hK => ?_
        refine awp_region tyOk tyPos [] rfl ?_
        all_goals simp only [push_cast, ↓brB_true, ↓brB_false, ↓reduceIte, zA, zB, zC, zD, zE, zF, zG, zH, zI, reduceCtorEq]
        all_goals repeat' (first | (apply brB_mk <;> (intro hg; (try simp only [push_cast] at hg))) | apply And.intro | (intro hg; (try simp only [push_cast] at hg)))
        all_goals first | exact gA | (exact getE_dII (by omega)) | skip
        all_goals first | (refine hK _ ?_; clear hK K) | (simp only [push_cast]; done)
        rw [pickS_set]
        have hH7 := hH (gi (gl x.next v) i)
        rw [← List.take_of_length_le (l := x.pick.set v (gi (gl x.next v) i)) (i := x.pick.length) (by rw [List.length_set]; exact Nat.le_refl _)] at hH7
        refine awp_seq' fun K hK => ?_
        refine awp_regionD1 false tyOk tyPos tyMix ?_ rfl ?_
        · kernel_rfl
        intro E hE
        all_goals refine lexF_cut 8 (by decide) fun K9 hK9 => ?_
        all_goals simp only [push_cast, ↓brB_true, ↓brB_false, ↓reduceIte, zA, zB, zC, zD, zE, zF, zG, zH, zI, reduceCtorEq]
        all_goals repeat' (first | (apply brB_mk <;> (intro hg; (try simp only [push_cast] at hg))) | (refine ⟨_, hH7, ?_⟩; simp only [push_cast, ↓brB_true, ↓brB_false, ↓reduceIte, zA, zB, zC, zD, zE, zF, zG, zH, zI, reduceCtorEq]) | apply And.intro | (intro hg; (try simp only [push_cast] at hg)))
        all_goals first | exact gA | (exact getE_dII (by omega)) | skip
        all_goals first | (refine hK9 _ _ ?_; clear hK9 K9) | (simp only [push_cast]; done)
        all_goals simp only [push_cast, ↓brB_true, ↓brB_false, ↓reduceIte, zA, zB, zC, zD, zE, zF, zG, zH, zI, reduceCtorEq]
        all_goals repeat' (first | (apply brB_mk <;> (intro hg; (try simp only [push_cast] at hg))) | (refine ⟨_, hH7, ?_⟩; simp only [push_cast, ↓brB_true, ↓brB_false, ↓reduceIte, zA, zB, zC, zD, zE, zF, zG, zH, zI, reduceCtorEq]) | apply And.intro | (intro hg; (try simp only [push_cast] at hg)))
        all_goals first | exact gA | (refine hE _ _ ?_ ?_; kernel_rfl) | (exact getE_dII (by omega)) | skip
        all_goals clear hE E
        all_goals first | (refine hK _ ?_; clear hK K) | (simp only [push_cast]; done)
        refine awp_cond rfl (fun hc => ?_) (fun hc => ?_) <;> (try simp only [push_cast] at hc)
        ·
          refine awp_seq' fun K hK => ?_
          refine awp_region tyOk tyPos [] rfl ?_
          all_goals simp only [push_cast, ↓brB_true, ↓brB_false, ↓reduceIte, zA, zB, zC, zD, zE, zF, zG, zH, zI, reduceCtorEq]
          all_goals repeat' (first | (apply brB_mk <;> (intro hg; (try simp only [push_cast] at hg))) | apply And.intro | (intro hg; (try simp only [push_cast] at hg)))
          all_goals first | exact gA | (exact getE_dII (by omega)) | skip
          all_goals first | (refine hK _ ?_; clear hK K) | (simp only [push_cast]; done)
          refine awp_ret ?_
          (try simp only [AThen, ABlk])
          refine ⟨Or.inl rfl, ?_⟩
          simp only [RetOkG, outsOk, resVars, resVar, push_cast, ↓brB_true, ↓brB_false, ↓reduceIte, zA, zB, zC, zD, zE, zF, zG, zH, zI, reduceCtorEq]
          have hre := pickF_yes (by omega) hrr (try_h (by with_reducible assumption) (by rw [← hbe]; with_reducible assumption))
          subst hre
          all_goals first | rfl | exact ⟨rfl, rfl⟩ | skip
        ·
          refine awp_skip ?_
          (try simp only [AThen, ABlk, reduceIte, zF]); refine hK3 _ ?_
          refine awp_region tyOk tyPos [] rfl ?_
          all_goals simp only [push_cast, ↓brB_true, ↓brB_false, ↓reduceIte, zA, zB, zC, zD, zE, zF, zG, zH, zI, reduceCtorEq]
          all_goals repeat' (first | (apply brB_mk <;> (intro hg; (try simp only [push_cast] at hg))) | apply And.intro | (intro hg; (try simp only [push_cast] at hg)))
          all_goals first | exact gA | (exact getE_dII (by omega)) | skip
          refine hL0 _ ⟨i + 1, ⟨by omega, pickF_no (by omega) hrr (try_h (by with_reducible assumption) (by rw [← hbe]; with_reducible assumption))⟩, by omega, ?_⟩
          rw [pickS_yes (by with_reducible assumption)]
          refine cov_of rfl ?_ ?_ ?_ <;> simp only [covS, covL, push_cast, ↓brB_true, ↓brB_false, ↓reduceIte, zA, zB, zC, zD, zE, zF, zG, zH, zI, reduceCtorEq]
    ·
      refine awp_exit ?_
      have hii : i = (gl x.next v).length := by omega
      subst hii
      have hre := pickF_end hrr
      subst hre
      (try simp only [AThen, ABlk, reduceIte, zF]); refine hK1 _ ?_
      refine awp_seq' fun K hK => ?_
      refine awp_region tyOk tyPos [] rfl ?_
      all_goals simp only [push_cast, ↓brB_true, ↓brB_false, ↓reduceIte, zA, zB, zC, zD, zE, zF, zG, zH, zI, reduceCtorEq]
      all_goals repeat' (first | (apply brB_mk <;> (intro hg; (try simp only [push_cast] at hg))) | apply And.intro | (intro hg; (try simp only [push_cast] at hg)))
      all_goals first | exact gA | (exact getE_dII (by omega)) | skip
      all_goals first | (refine hK _ ?_; clear hK K) | (simp only [push_cast]; done)
      refine awp_ret ?_
      (try simp only [AThen, ABlk])
      refine ⟨Or.inl rfl, ?_⟩
      simp only [RetOkG, outsOk, resVars, resVar, push_cast, ↓brB_true, ↓brB_false, ↓reduceIte, zA, zB, zC, zD, zE, zF, zG, zH, zI, reduceCtorEq]
      all_goals first | rfl | exact ⟨rfl, rfl⟩ | skip
end Go.Proofs.Ytdbecmmeifdafaa

namespace Go.Proofs.Ytdbecmmeifdafaa
open Nat renaming reduceMod → zA, reduceMul → zB, reduceDiv → zC, reduceAdd → zD, reduceSub → zE, reduceEqDiff → zF, reduceBEq → zG, reduceLT → zH, reduceLeDiff → zI
open Go.RowKit
set_option linter.unusedVariables false
set_option linter.unusedSimpArgs false

theorem wonG_rg (g : Pa) {v : Nat} (hv : v < g.a.owner.length) : gi (wonG g) v = 0 ∨ gi (wonG g) v = 1 := by rw [wonG_gi hv]; exact flag_rg _
theorem planK_0 (g : Pa) : planK g 0 = noP g.a.owner.length := rfl
set_option maxRecDepth 20000 in
set_option maxHeartbeats 8000000 in
theorem PlanFrom_fn (g : Pa) (hg : g.Ln 1048576) (hok : parityB g = true) : Fn Try.prog tyT 99 [.agg (dPa g), .c (DI (noP g.prio.length))] [.agg [DI (wonG g), DI (planG g)], .c (.bool true)] := by
  obtain ⟨hao, hpl, hpr⟩ := parityB_facts hok
  have hal := arenaB_len hao
  have hKW := KeepsWon_fn g hg hok
  have hWn := l7Won_fn g hok
  have hOf := l7Of_fn g hok
  have hwl := wonG_len g
  have hwr := fun v hv => wonG_rg g (v := v) hv
  have hRg := fun w => l7Region_fn (wonG g) (by omega) w
  obtain ⟨F, hF⟩ : ∃ F : Nat → Int → Int × List Int, ∀ v w, F v w = pickF (l7G g (planK g v)) (regL (wonG g) w) v (gl g.a.next v).length 0 := ⟨_, fun _ _ => rfl⟩
  have hPk := fun (v : Nat) (hv : v < g.a.owner.length) (w : Int) (_hw : gi (wonG g) v = w) => l7Pick_fn (l7G g (planK g v)) (regL (wonG g) w) (by rw [regL_len, wonG_len]; exact l7G_ok hok (planK_len g v)) v (by rw [regL_len, wonG_len]; exact hv) (F v w) (hF v w).symm
  have hno := fun v hv => planK_no (g := g) (v := v) hv
  have hys := fun v h1 h2 w hw => planK_yes (g := g) (v := v) h1 h2 (w := w) hw (hF v w).symm
  have hkl := planK_len g
  have hk0 := planK_0 g
  have hng := noP_gi g.a.owner.length
  have hns := noP_set g.a.owner.length
  have hnl := noP_len g.a.owner.length
  have hpv := prvI_len g.a g.a.owner.length g.a.owner.length 0
  have hrl := fun w => regL_len (wonG g) w
  unfold planG
  unfold dL7 l7G at hPk
  dsimp only at hPk
  rw [← List.take_of_length_le (l := prvI g.a g.a.owner.length g.a.owner.length 0) (i := g.a.owner.length) (by omega)] at hPk
  have hFl : ∀ v w, (F v w).2.length = g.a.owner.length := fun v w => by rw [hF, pickF_len]; exact planK_len g v
  clear hF
  unfold dPa at hKW hWn hOf ⊢
  rw [hpl] at hKW ⊢
  generalize wonG g = won at *
  refine Fn_ofR (fn := Try.f99) (rs := [.cell 4 74, .tmp 5]) tyOk tyPos Try.func99 (by kernel_rfl) rfl rfl (by rw [Try.ntmps99]; exact Nat.le_of_ble_eq_true rfl) rfl (by simp only [szA, List.mem_cons, List.not_mem_nil, or_false, forall_eq_or_imp, forall_eq, VT.cells, szL]; try decide) ?_
  rw [Try.ntmps99]
  simp only [push_cast, ↓brB_true, ↓brB_false, ↓reduceIte, zA, zB, zC, zD, zE, zF, zG, zH, zI, reduceCtorEq]
  refine awp_seq' fun K hK => ?_
  refine awp_region tyOk tyPos [] rfl ?_
  simp only [push_cast, ↓brB_true, ↓brB_false, ↓reduceIte, zA, zB, zC, zD, zE, zF, zG, zH, zI, reduceCtorEq]
  repeat' apply And.intro
  all_goals try exact gB
  all_goals first | (refine hK _ ?_; clear hK K) | (simp only [push_cast]; done)
  refine awp_seq' fun K1 hK1 => ?_
  refine awp_seq' fun K hK => ?_
  refine awp_region tyOk tyPos [] rfl ?_
  all_goals refine aops_cut 3 fun K9 hK9 => ?_
  all_goals simp only [push_cast, ↓brB_true, ↓brB_false, ↓reduceIte, zA, zB, zC, zD, zE, zF, zG, zH, zI, reduceCtorEq]
  all_goals repeat' (first | (apply brB_mk <;> (intro hg; (try simp only [push_cast] at hg))) | (refine ⟨_, hKW, ?_⟩; simp only [push_cast, ↓brB_true, ↓brB_false, ↓reduceIte, zA, zB, zC, zD, zE, zF, zG, zH, zI, reduceCtorEq]) | apply And.intro | (intro hg; (try simp only [push_cast] at hg)))
  all_goals try exact gA
  all_goals first | (refine hK9 _ ?_; clear hK9 K9) | (simp only [push_cast]; done)
  all_goals simp only [push_cast, ↓brB_true, ↓brB_false, ↓reduceIte, zA, zB, zC, zD, zE, zF, zG, zH, zI, reduceCtorEq]
  all_goals repeat' (first | (apply brB_mk <;> (intro hg; (try simp only [push_cast] at hg))) | (refine ⟨_, hKW, ?_⟩; simp only [push_cast, ↓brB_true, ↓brB_false, ↓reduceIte, zA, zB, zC, zD, zE, zF, zG, zH, zI, reduceCtorEq]) | apply And.intro | (intro hg; (try simp only [push_cast] at hg)))
  all_goals try exact gA
  all_goals first | (refine hK _ ?_; clear hK K) | (simp only [push_cast]; done)
  refine awp_cond rfl (fun hc => ?_) (fun hc => ?_)
  skip
  · exfalso; first | (cases hc; done) | (simp only [push_cast] at hc; done) | (simp only [push_cast] at hc; omega) | omega
  refine awp_skip ?_
  (try simp only [AThen, ABlk, reduceIte, zF]); refine hK1 _ ?_
  refine awp_seq' fun K hK => ?_
  refine awp_region tyOk tyPos [] rfl ?_
  all_goals refine aops_cut 2 fun K9 hK9 => ?_
  all_goals simp only [push_cast, ↓brB_true, ↓brB_false, ↓reduceIte, zA, zB, zC, zD, zE, zF, zG, zH, zI, reduceCtorEq]
  all_goals repeat' (first | (apply brB_mk <;> (intro hg; (try simp only [push_cast] at hg))) | (refine ⟨_, hWn, ?_⟩; simp only [push_cast, ↓brB_true, ↓brB_false, ↓reduceIte, zA, zB, zC, zD, zE, zF, zG, zH, zI, reduceCtorEq]) | apply And.intro | (intro hg; (try simp only [push_cast] at hg)))
  all_goals try exact gA
  all_goals first | (refine hK9 _ ?_; clear hK9 K9) | (simp only [push_cast]; done)
  all_goals simp only [push_cast, ↓brB_true, ↓brB_false, ↓reduceIte, zA, zB, zC, zD, zE, zF, zG, zH, zI, reduceCtorEq]
  all_goals repeat' (first | (apply brB_mk <;> (intro hg; (try simp only [push_cast] at hg))) | (refine ⟨_, hWn, ?_⟩; simp only [push_cast, ↓brB_true, ↓brB_false, ↓reduceIte, zA, zB, zC, zD, zE, zF, zG, zH, zI, reduceCtorEq]) | apply And.intro | (intro hg; (try simp only [push_cast] at hg)))
  all_goals try exact gA
  all_goals first | (refine hK _ ?_; clear hK K) | (simp only [push_cast]; done)
  refine awp_seq' fun K hK => ?_
  refine awp_regionNU false (actTE Try.prog tyT) 21 (fun _ _ _ h => actTE_act h) tyOk tyPos ?_ rfl ?_
  · kernel_rfl
  all_goals simp only [push_cast, ↓brB_true, ↓brB_false, ↓reduceIte, zA, zB, zC, zD, zE, zF, zG, zH, zI, reduceCtorEq]
  all_goals repeat' (first | (apply brB_mk <;> (intro hg; (try simp only [push_cast] at hg))) | (refine ⟨_, _, hOf, ?_⟩; simp only [push_cast, ↓brB_true, ↓brB_false, ↓reduceIte, zA, zB, zC, zD, zE, zF, zG, zH, zI, reduceCtorEq]) | apply And.intro | (intro hg; (try simp only [push_cast] at hg)))
  all_goals try exact gA
  all_goals first | (refine hK _ ?_; clear hK K) | (simp only [push_cast]; done)
  refine awp_seq' fun K2 hK2 => ?_
  refine awp_settleBA [112, 113, 114] [.sl 2, .sl 2, .sl 27, .sl 27, .sl 2] 7 ?_
  simp only [push_cast, ↓brB_true, ↓brB_false, ↓reduceIte, zA, zB, zC, zD, zE, zF, zG, zH, zI, reduceCtorEq]
  refine awp_seq' fun K hK => ?_
  refine awp_region tyOk tyPos [] rfl ?_
  simp only [push_cast, ↓brB_true, ↓brB_false, ↓reduceIte, zA, zB, zC, zD, zE, zF, zG, zH, zI, reduceCtorEq]
  repeat' apply And.intro
  all_goals try exact gB
  all_goals first | (refine hK _ ?_; clear hK K) | (simp only [push_cast]; done)
  refine awp_block ?_
  refine awp_loopU [5,7,8,22,23,24,25,26,27,28,29,30,31,32,33,34,35,36,37,38,39,40,41,42,43,44,45,46,47,48,49,50,51,52,53,54] [115,116] (fun (v : Nat) => [(8, .int .i64 v), (7, .bp 7 0)]) (fun v => [(7, [.sl 0 [] 0 g.a.owner.length 2, .sl 2 [] 0 g.prio.length 2, .sl 1 [] 0 g.a.next.length 27, .sl 115 [] 0 g.a.owner.length 27, .sl 116 [] 0 g.a.owner.length 2])]) (fun v => [(115, ⟨.ex, 27, dII (prvI g.a g.a.owner.length g.a.owner.length 0), none⟩), (116, ⟨.ex, 2, dI (noP g.a.owner.length), none⟩)]) (fun v => v ≤ g.a.owner.length) (fun v => g.a.owner.length - v) 0 ?_ (by omega) ?_
  ·
    rw [hpv]
    rw [hnl]
    refine cov_of rfl ?_ ?_ ?_ <;> simp only [covS, covL, push_cast, ↓brB_true, ↓brB_false, ↓reduceIte, zA, zB, zC, zD, zE, zF, zG, zH, zI, reduceCtorEq]
  · rintro v hv KL0 hL0
    simp only [push_cast, ↓brB_true, ↓brB_false, ↓reduceIte, zA, zB, zC, zD, zE, zF, zG, zH, zI, reduceCtorEq]
    refine awp_seq' fun K3 hK3 => ?_
    refine awp_seq' fun K hK => ?_
    refine awp_region tyOk tyPos [] rfl ?_
    simp only [push_cast, ↓brB_true, ↓brB_false, ↓reduceIte, zA, zB, zC, zD, zE, zF, zG, zH, zI, reduceCtorEq]
    repeat' apply And.intro
    all_goals try exact gB
    all_goals first | (refine hK _ ?_; clear hK K) | (simp only [push_cast]; done)
    refine awp_cond rfl (fun hc => ?_) (fun hc => ?_) <;> (try simp only [push_cast] at hc)
    ·
      refine awp_skip ?_
      (try simp only [AThen, ABlk, reduceIte, zF]); refine hK3 _ ?_
      refine awp_seq' fun K4 hK4 => ?_
      refine awp_block ?_
      refine awp_seq' fun K5 hK5 => ?_
      have hngv := hng v (by omega)
      refine awp_seq' fun K hK => ?_
      refine awp_regionD1 false tyOk tyPos tyMix ?_ rfl ?_
      · kernel_rfl
      intro E hE
      all_goals simp only [push_cast, ↓brB_true, ↓brB_false, ↓reduceIte, zA, zB, zC, zD, zE, zF, zG, zH, zI, reduceCtorEq]
      all_goals repeat' (first | (apply brB_mk <;> (intro hg; (try simp only [push_cast] at hg))) | apply And.intro | (intro hg; (try simp only [push_cast] at hg)))
      all_goals first | exact gA | (refine hE _ _ ?_ ?_; kernel_rfl) | skip
      all_goals clear hE E
      all_goals first | (refine hK _ ?_; clear hK K) | (simp only [push_cast]; done)
      all_goals (
          refine awp_cond rfl (fun hc => ?_) (fun hc => ?_)
          skip
          · exfalso; first | (cases hc; done) | (simp only [push_cast] at hc; done) | (simp only [push_cast] at hc; omega) | omega
          refine awp_skip ?_
          (try simp only [AThen, ABlk, reduceIte, zF]); refine hK5 _ ?_
          refine awp_regionD0 false tyOk tyPos tyMix ?_ rfl ?_
          · kernel_rfl
          intro C hC
          simp only [push_cast, ↓brB_true, ↓brB_false, ↓reduceIte, zA, zB, zC, zD, zE, zF, zG, zH, zI, reduceCtorEq]
          repeat' apply And.intro
          all_goals first | omega | with_reducible assumption | (refine hC _ ?_; kernel_rfl) | (simp only [List.length_set, List.length_append, List.length_replicate, List.length_cons, List.length_nil]; omega) | skip
          clear hC C
          (try simp only [AThen, ABlk, reduceIte, zF]); refine hK4 _ ?_
          refine awp_region tyOk tyPos [] rfl ?_
          simp only [push_cast, ↓brB_true, ↓brB_false, ↓reduceIte, zA, zB, zC, zD, zE, zF, zG, zH, zI, reduceCtorEq]
          repeat' apply And.intro
          all_goals try exact gB
          refine hL0 _ ⟨v + 1, by omega, by omega, ?_⟩
          refine cov_of rfl ?_ ?_ ?_ <;> simp only [covS, covL, push_cast, ↓brB_true, ↓brB_false, ↓reduceIte, zA, zB, zC, zD, zE, zF, zG, zH, zI, reduceCtorEq]
          all_goals (rw [hngv, hns v (by omega)]))
    ·
      refine awp_exit ?_
      (try simp only [AThen, ABlk, reduceIte, zF]); refine hK2 _ ?_
      refine awp_seq' fun K hK => ?_
      refine awp_region tyOk tyPos [] rfl ?_
      all_goals refine aops_cut 2 fun K9 hK9 => ?_
      all_goals simp only [push_cast, ↓brB_true, ↓brB_false, ↓reduceIte, zA, zB, zC, zD, zE, zF, zG, zH, zI, reduceCtorEq]
      all_goals repeat' (first | (apply brB_mk <;> (intro hg; (try simp only [push_cast] at hg))) | (refine ⟨_, hRg 0, ?_⟩; simp only [push_cast, ↓brB_true, ↓brB_false, ↓reduceIte, zA, zB, zC, zD, zE, zF, zG, zH, zI, reduceCtorEq]) | apply And.intro | (intro hg; (try simp only [push_cast] at hg)))
      all_goals try exact gA
      all_goals first | (refine hK9 _ ?_; clear hK9 K9) | (simp only [push_cast]; done)
      all_goals simp only [push_cast, ↓brB_true, ↓brB_false, ↓reduceIte, zA, zB, zC, zD, zE, zF, zG, zH, zI, reduceCtorEq]
      all_goals repeat' (first | (apply brB_mk <;> (intro hg; (try simp only [push_cast] at hg))) | (refine ⟨_, hRg 0, ?_⟩; simp only [push_cast, ↓brB_true, ↓brB_false, ↓reduceIte, zA, zB, zC, zD, zE, zF, zG, zH, zI, reduceCtorEq]) | apply And.intro | (intro hg; (try simp only [push_cast] at hg)))
      all_goals try exact gA
      all_goals first | (refine hK _ ?_; clear hK K) | (simp only [push_cast]; done)
      refine awp_seq' fun K hK => ?_
      refine awp_region tyOk tyPos [] rfl ?_
      all_goals refine aops_cut 2 fun K9 hK9 => ?_
      all_goals simp only [push_cast, ↓brB_true, ↓brB_false, ↓reduceIte, zA, zB, zC, zD, zE, zF, zG, zH, zI, reduceCtorEq]
      all_goals repeat' (first | (apply brB_mk <;> (intro hg; (try simp only [push_cast] at hg))) | (refine ⟨_, hRg 1, ?_⟩; simp only [push_cast, ↓brB_true, ↓brB_false, ↓reduceIte, zA, zB, zC, zD, zE, zF, zG, zH, zI, reduceCtorEq]) | apply And.intro | (intro hg; (try simp only [push_cast] at hg)))
      all_goals try exact gA
      all_goals first | (refine hK9 _ ?_; clear hK9 K9) | (simp only [push_cast]; done)
      all_goals simp only [push_cast, ↓brB_true, ↓brB_false, ↓reduceIte, zA, zB, zC, zD, zE, zF, zG, zH, zI, reduceCtorEq]
      all_goals repeat' (first | (apply brB_mk <;> (intro hg; (try simp only [push_cast] at hg))) | (refine ⟨_, hRg 1, ?_⟩; simp only [push_cast, ↓brB_true, ↓brB_false, ↓reduceIte, zA, zB, zC, zD, zE, zF, zG, zH, zI, reduceCtorEq]) | apply And.intro | (intro hg; (try simp only [push_cast] at hg)))
      all_goals try exact gA
      all_goals first | (refine hK _ ?_; clear hK K) | (simp only [push_cast]; done)
      refine awp_seq' fun K6 hK6 => ?_
      refine awp_seq' fun K hK => ?_
      refine awp_region tyOk tyPos [] rfl ?_
      simp only [push_cast, ↓brB_true, ↓brB_false, ↓reduceIte, zA, zB, zC, zD, zE, zF, zG, zH, zI, reduceCtorEq]
      repeat' apply And.intro
      all_goals try exact gB
      all_goals first | (refine hK _ ?_; clear hK K) | (simp only [push_cast]; done)
      refine awp_block ?_
      refine awp_loopU [7,11,12,33,59,60,61,62,63,64,65,66,67,68,69,70,71,72,73,74,75,76,77,78,79,80,81,82,83,84,85,86,87,88,89,90,91,92,93,94,95,96,97,98] [115,116] (fun (v : Nat) => [(11, .int .i64 v), (7, .bp 7 0)]) (fun v => [(7, [.sl 0 [] 0 g.a.owner.length 2, .sl 2 [] 0 g.prio.length 2, .sl 1 [] 0 g.a.next.length 27, .sl 115 [] 0 g.a.owner.length 27, .sl 116 [] 0 g.a.owner.length 2])]) (fun v => [(115, ⟨.ex, 27, dII (prvI g.a g.a.owner.length g.a.owner.length 0), none⟩), (116, ⟨.ex, 2, dI (planK g v), none⟩)]) (fun v => v ≤ g.a.owner.length) (fun v => g.a.owner.length - v) 0 ?_ (by omega) ?_
      ·
        rw [hk0]
        refine cov_of rfl ?_ ?_ ?_ <;> simp only [covS, covL, push_cast, ↓brB_true, ↓brB_false, ↓reduceIte, zA, zB, zC, zD, zE, zF, zG, zH, zI, reduceCtorEq]
      · rintro v hv KL1 hL1
        have hkv := hkl v
        simp only [push_cast, ↓brB_true, ↓brB_false, ↓reduceIte, zA, zB, zC, zD, zE, zF, zG, zH, zI, reduceCtorEq]
        refine awp_seq' fun K7 hK7 => ?_
        refine awp_seq' fun K hK => ?_
        refine awp_region tyOk tyPos [] rfl ?_
        simp only [push_cast, ↓brB_true, ↓brB_false, ↓reduceIte, zA, zB, zC, zD, zE, zF, zG, zH, zI, reduceCtorEq]
        repeat' apply And.intro
        all_goals try exact gB
        all_goals first | (refine hK _ ?_; clear hK K) | (simp only [push_cast]; done)
        refine awp_cond rfl (fun hc => ?_) (fun hc => ?_) <;> (try simp only [push_cast] at hc)
        ·
          refine awp_skip ?_
          (try simp only [AThen, ABlk, reduceIte, zF]); refine hK7 _ ?_
          refine awp_seq' fun K8 hK8 => ?_
          refine awp_block ?_
          refine awp_seq' fun K9 hK9 => ?_
          refine awp_seq' fun K hK => ?_
          refine awp_regionD1 false tyOk tyPos tyMix ?_ rfl ?_
          · kernel_rfl
          intro E hE
          all_goals simp only [push_cast, ↓brB_true, ↓brB_false, ↓reduceIte, zA, zB, zC, zD, zE, zF, zG, zH, zI, reduceCtorEq]
          all_goals repeat' (first | (apply brB_mk <;> (intro hg; (try simp only [push_cast] at hg))) | apply And.intro | (intro hg; (try simp only [push_cast] at hg)))
          all_goals first | exact gA | (refine hE _ _ ?_ ?_; kernel_rfl) | skip
          all_goals clear hE E
          all_goals first | (refine hK _ ?_; clear hK K) | (simp only [push_cast]; done)
          all_goals refine awp_cond rfl (fun hc => ?_) (fun hc => ?_)
          all_goals (first | (cases hc; done) | skip)
          all_goals (try simp only [push_cast] at hc)
          all_goals first
            | (
                refine awp_skip ?_
                (try simp only [AThen, ABlk, reduceIte, zF]); refine hK9 _ ?_
                refine awp_seq' fun K hK => ?_
                refine awp_region tyOk tyPos [192] rfl ?_
                simp only [push_cast, ↓brB_true, ↓brB_false, ↓reduceIte, zA, zB, zC, zD, zE, zF, zG, zH, zI, reduceCtorEq]
                repeat' apply And.intro
                all_goals try exact gB
                all_goals first | (refine hK _ ?_; clear hK K) | (simp only [push_cast]; done)
                refine awp_seq' fun K10 hK10 => ?_
                refine awp_seq' fun K hK => ?_
                refine awp_region tyOk tyPos [] rfl ?_
                simp only [push_cast, ↓brB_true, ↓brB_false, ↓reduceIte, zA, zB, zC, zD, zE, zF, zG, zH, zI, reduceCtorEq]
                repeat' apply And.intro
                all_goals try exact gB
                all_goals first | (refine hK _ ?_; clear hK K) | (simp only [push_cast]; done)
                refine awp_cond rfl (fun hc => ?_) (fun hc => ?_) <;> (try simp only [push_cast] at hc)
                ·
                  refine awp_region tyOk tyPos [192] rfl ?_
                  simp only [push_cast, ↓brB_true, ↓brB_false, ↓reduceIte, zA, zB, zC, zD, zE, zF, zG, zH, zI, reduceCtorEq]
                  repeat' apply And.intro
                  all_goals try exact gB
                  (try simp only [AThen, ABlk, reduceIte, zF]); refine hK10 _ ?_
                  have hF1 := hFl v 1
                  have hF0 := hFl v 0
                  have hPv := hPk v (by omega)
                  rw [← List.take_of_length_le (l := planK g v) (i := g.a.owner.length) (by omega)] at hPv
                  refine awp_regionDU true (actGE Try.prog tyT 4) 97 (fun _ _ _ h => actGE_act h) tyOk tyPos tyMix ?_ rfl ?_
                  · kernel_rfl
                  intro E hE
                  all_goals refine lexU_cut 7 (by decide) fun K9 hK9 => ?_
                  all_goals simp only [push_cast, ↓brB_true, ↓brB_false, ↓reduceIte, zA, zB, zC, zD, zE, zF, zG, zH, zI, reduceCtorEq]
                  all_goals repeat' (first | (apply brB_mk <;> (intro hg; (try simp only [push_cast] at hg))) | (refine ⟨_, _, _, hPv 1 (by omega), ?_⟩; (try simp only [push_cast, ↓brB_true, ↓brB_false, ↓reduceIte, zA, zB, zC, zD, zE, zF, zG, zH, zI, reduceCtorEq])) | (refine ⟨_, _, _, hPv 0 (by have := hwr v (by omega); omega), ?_⟩; (try simp only [push_cast, ↓brB_true, ↓brB_false, ↓reduceIte, zA, zB, zC, zD, zE, zF, zG, zH, zI, reduceCtorEq])) | apply And.intro | (intro hg; (try simp only [push_cast] at hg)))
                  all_goals try exact gA
                  all_goals first | (refine hK9 _ _ ?_; clear hK9 K9) | (simp only [push_cast]; done)
                  all_goals simp only [push_cast, ↓brB_true, ↓brB_false, ↓reduceIte, zA, zB, zC, zD, zE, zF, zG, zH, zI, reduceCtorEq]
                  all_goals repeat' (first | (apply brB_mk <;> (intro hg; (try simp only [push_cast] at hg))) | (refine ⟨_, _, _, hPv 1 (by omega), ?_⟩; (try simp only [push_cast, ↓brB_true, ↓brB_false, ↓reduceIte, zA, zB, zC, zD, zE, zF, zG, zH, zI, reduceCtorEq])) | (refine ⟨_, _, _, hPv 0 (by have := hwr v (by omega); omega), ?_⟩; (try simp only [push_cast, ↓brB_true, ↓brB_false, ↓reduceIte, zA, zB, zC, zD, zE, zF, zG, zH, zI, reduceCtorEq])) | apply And.intro | (intro hg; (try simp only [push_cast] at hg)))
                  all_goals first | exact gA | (refine hE _ _ ?_ ?_; kernel_rfl) | skip
                  all_goals clear hE E
                  (try simp only [AThen, ABlk, reduceIte, zF]); refine hK8 _ ?_
                  refine awp_region tyOk tyPos [] rfl ?_
                  simp only [push_cast, ↓brB_true, ↓brB_false, ↓reduceIte, zA, zB, zC, zD, zE, zF, zG, zH, zI, reduceCtorEq]
                  repeat' apply And.intro
                  all_goals try exact gB
                  refine hL1 _ ⟨v + 1, by omega, by omega, ?_⟩
                  rw [hys v (by omega) (by omega) 1 (by omega)]
                  refine cov_of rfl ?_ ?_ ?_ <;> simp only [covS, covL, push_cast, ↓brB_true, ↓brB_false, ↓reduceIte, zA, zB, zC, zD, zE, zF, zG, zH, zI, reduceCtorEq]
                ·
                  refine awp_skip ?_
                  (try simp only [AThen, ABlk, reduceIte, zF]); refine hK10 _ ?_
                  have hF1 := hFl v 1
                  have hF0 := hFl v 0
                  have hPv := hPk v (by omega)
                  rw [← List.take_of_length_le (l := planK g v) (i := g.a.owner.length) (by omega)] at hPv
                  refine awp_regionDU true (actGE Try.prog tyT 4) 97 (fun _ _ _ h => actGE_act h) tyOk tyPos tyMix ?_ rfl ?_
                  · kernel_rfl
                  intro E hE
                  all_goals refine lexU_cut 7 (by decide) fun K9 hK9 => ?_
                  all_goals simp only [push_cast, ↓brB_true, ↓brB_false, ↓reduceIte, zA, zB, zC, zD, zE, zF, zG, zH, zI, reduceCtorEq]
                  all_goals repeat' (first | (apply brB_mk <;> (intro hg; (try simp only [push_cast] at hg))) | (refine ⟨_, _, _, hPv 1 (by omega), ?_⟩; (try simp only [push_cast, ↓brB_true, ↓brB_false, ↓reduceIte, zA, zB, zC, zD, zE, zF, zG, zH, zI, reduceCtorEq])) | (refine ⟨_, _, _, hPv 0 (by have := hwr v (by omega); omega), ?_⟩; (try simp only [push_cast, ↓brB_true, ↓brB_false, ↓reduceIte, zA, zB, zC, zD, zE, zF, zG, zH, zI, reduceCtorEq])) | apply And.intro | (intro hg; (try simp only [push_cast] at hg)))
                  all_goals try exact gA
                  all_goals first | (refine hK9 _ _ ?_; clear hK9 K9) | (simp only [push_cast]; done)
                  all_goals simp only [push_cast, ↓brB_true, ↓brB_false, ↓reduceIte, zA, zB, zC, zD, zE, zF, zG, zH, zI, reduceCtorEq]
                  all_goals repeat' (first | (apply brB_mk <;> (intro hg; (try simp only [push_cast] at hg))) | (refine ⟨_, _, _, hPv 1 (by omega), ?_⟩; (try simp only [push_cast, ↓brB_true, ↓brB_false, ↓reduceIte, zA, zB, zC, zD, zE, zF, zG, zH, zI, reduceCtorEq])) | (refine ⟨_, _, _, hPv 0 (by have := hwr v (by omega); omega), ?_⟩; (try simp only [push_cast, ↓brB_true, ↓brB_false, ↓reduceIte, zA, zB, zC, zD, zE, zF, zG, zH, zI, reduceCtorEq])) | apply And.intro | (intro hg; (try simp only [push_cast] at hg)))
                  all_goals first | exact gA | (refine hE _ _ ?_ ?_; kernel_rfl) | skip
                  all_goals clear hE E
                  (try simp only [AThen, ABlk, reduceIte, zF]); refine hK8 _ ?_
                  refine awp_region tyOk tyPos [] rfl ?_
                  simp only [push_cast, ↓brB_true, ↓brB_false, ↓reduceIte, zA, zB, zC, zD, zE, zF, zG, zH, zI, reduceCtorEq]
                  repeat' apply And.intro
                  all_goals try exact gB
                  refine hL1 _ ⟨v + 1, by omega, by omega, ?_⟩
                  rw [hys v (by omega) (by omega) 0 (by have := hwr v (by omega); omega)]
                  refine cov_of rfl ?_ ?_ ?_ <;> simp only [covS, covL, push_cast, ↓brB_true, ↓brB_false, ↓reduceIte, zA, zB, zC, zD, zE, zF, zG, zH, zI, reduceCtorEq]
                done)
            | (
                refine awp_exit ?_
                (try simp only [AThen, ABlk, reduceIte, zF]); refine hK8 _ ?_
                refine awp_region tyOk tyPos [] rfl ?_
                simp only [push_cast, ↓brB_true, ↓brB_false, ↓reduceIte, zA, zB, zC, zD, zE, zF, zG, zH, zI, reduceCtorEq]
                repeat' apply And.intro
                all_goals try exact gB
                refine hL1 _ ⟨v + 1, by omega, by omega, ?_⟩
                rw [hno v (by first | exact Or.inl (by omega) | exact Or.inr (by omega))]
                refine cov_of rfl ?_ ?_ ?_ <;> simp only [covS, covL, push_cast, ↓brB_true, ↓brB_false, ↓reduceIte, zA, zB, zC, zD, zE, zF, zG, zH, zI, reduceCtorEq]
                done)
        ·
          refine awp_exit ?_
          have hvv : v = g.a.owner.length := by omega
          subst hvv
          (try simp only [AThen, ABlk, reduceIte, zF]); refine hK6 _ ?_
          refine awp_seq' fun K hK => ?_
          refine awp_region tyOk tyPos [] rfl ?_
          simp only [push_cast, ↓brB_true, ↓brB_false, ↓reduceIte, zA, zB, zC, zD, zE, zF, zG, zH, zI, reduceCtorEq]
          repeat' apply And.intro
          all_goals try exact gB
          all_goals first | (refine hK _ ?_; clear hK K) | (simp only [push_cast]; done)
          refine awp_ret ?_
          (try simp only [AThen, ABlk])
          refine ⟨Or.inl rfl, ?_⟩
          simp only [RetOk, resVars, resVar, push_cast, ↓brB_true, ↓brB_false, ↓reduceIte, zA, zB, zC, zD, zE, zF, zG, zH, zI, reduceCtorEq]
          all_goals first | rfl | omega | skip
end Go.Proofs.Ytdbecmmeifdafaa

namespace Go.Proofs.Ytdbecmmeifdafaa
open Nat renaming reduceMod → zA, reduceMul → zB, reduceDiv → zC, reduceAdd → zD, reduceSub → zE, reduceEqDiff → zF, reduceBEq → zG, reduceLT → zH, reduceLeDiff → zI
open Go.RowKit
set_option linter.unusedVariables false
set_option linter.unusedSimpArgs false

set_option maxRecDepth 20000 in
set_option maxHeartbeats 4000000 in
theorem Solved_fn (g : Pa) (hg : g.Ln 1048576) (hok : parityB g = true) : Fn Try.prog tyT 47 [.agg (dPa g)] [.agg [DI (wonG g), DI (planG g)]] := by
  have hp := hg.prio
  unfold LnI at hp
  have hP := ParityOkS_fn g hg
  rw [hok] at hP
  have hN := l7None_fn g.prio.length hp
  have hF := PlanFrom_fn g hg hok
  generalize wonG g = won at *
  generalize planG g = pl at *
  unfold dPa at hP hF ⊢
  refine Fn_ofR (fn := Try.f47) (rs := [.cell 2 74]) tyOk tyPos Try.func47 (by kernel_rfl) rfl rfl (by rw [Try.ntmps47]; exact Nat.le_of_ble_eq_true rfl) rfl (by simp only [szA, List.mem_cons, List.not_mem_nil, or_false, forall_eq_or_imp, forall_eq, VT.cells, szL]; try decide) ?_
  rw [Try.ntmps47]
  simp only [push_cast, ↓brB_true, ↓brB_false, ↓reduceIte, zA, zB, zC, zD, zE, zF, zG, zH, zI, reduceCtorEq]
  refine awp_seq' fun K hK => ?_
  refine awp_region tyOk tyPos [] rfl ?_
  simp only [push_cast, ↓brB_true, ↓brB_false, ↓reduceIte, zA, zB, zC, zD, zE, zF, zG, zH, zI, reduceCtorEq]
  repeat' apply And.intro
  all_goals try exact gB
  all_goals first | (refine hK _ ?_; clear hK K) | (simp only [push_cast]; done)
  refine awp_seq' fun K1 hK1 => ?_
  refine awp_seq' fun K hK => ?_
  refine awp_region tyOk tyPos [] rfl ?_
  all_goals refine aops_cut 2 fun K9 hK9 => ?_
  all_goals simp only [push_cast, ↓brB_true, ↓brB_false, ↓reduceIte, zA, zB, zC, zD, zE, zF, zG, zH, zI, reduceCtorEq]
  all_goals repeat' (first | (apply brB_mk <;> (intro hg; (try simp only [push_cast] at hg))) | (refine ⟨_, hP, ?_⟩; simp only [push_cast, ↓brB_true, ↓brB_false, ↓reduceIte, zA, zB, zC, zD, zE, zF, zG, zH, zI, reduceCtorEq]) | apply And.intro | (intro hg; (try simp only [push_cast] at hg)))
  all_goals try exact gA
  all_goals first | (refine hK9 _ ?_; clear hK9 K9) | (simp only [push_cast]; done)
  all_goals simp only [push_cast, ↓brB_true, ↓brB_false, ↓reduceIte, zA, zB, zC, zD, zE, zF, zG, zH, zI, reduceCtorEq]
  all_goals repeat' (first | (apply brB_mk <;> (intro hg; (try simp only [push_cast] at hg))) | (refine ⟨_, hP, ?_⟩; simp only [push_cast, ↓brB_true, ↓brB_false, ↓reduceIte, zA, zB, zC, zD, zE, zF, zG, zH, zI, reduceCtorEq]) | apply And.intro | (intro hg; (try simp only [push_cast] at hg)))
  all_goals try exact gA
  all_goals first | (refine hK _ ?_; clear hK K) | (simp only [push_cast]; done)
  refine awp_cond rfl (fun hc => ?_) (fun hc => ?_)
  skip
  · exfalso; first | (cases hc; done) | (simp only [push_cast] at hc; done) | (simp only [push_cast] at hc; omega) | omega
  refine awp_skip ?_
  (try simp only [AThen, ABlk, reduceIte, zF]); refine hK1 _ ?_
  refine awp_seq' fun K hK => ?_
  refine awp_regionD1 false tyOk tyPos tyMix ?_ rfl ?_
  · kernel_rfl
  intro E hE
  all_goals refine lexF_cut 5 (by decide) fun K9 hK9 => ?_
  all_goals simp only [push_cast, ↓brB_true, ↓brB_false, ↓reduceIte, zA, zB, zC, zD, zE, zF, zG, zH, zI, reduceCtorEq]
  all_goals repeat' (first | (apply brB_mk <;> (intro hg; (try simp only [push_cast] at hg))) | (refine ⟨_, hN, ?_⟩; simp only [push_cast, ↓brB_true, ↓brB_false, ↓reduceIte, zA, zB, zC, zD, zE, zF, zG, zH, zI, reduceCtorEq]) | apply And.intro | (intro hg; (try simp only [push_cast] at hg)))
  all_goals try exact gA
  all_goals first | (refine hK9 _ _ ?_; clear hK9 K9) | (simp only [push_cast]; done)
  all_goals refine lexF_cut 1 (by decide) fun K9 hK9 => ?_
  all_goals simp only [push_cast, ↓brB_true, ↓brB_false, ↓reduceIte, zA, zB, zC, zD, zE, zF, zG, zH, zI, reduceCtorEq]
  all_goals repeat' (first | (apply brB_mk <;> (intro hg; (try simp only [push_cast] at hg))) | (refine ⟨_, hF, ?_⟩; simp only [push_cast, ↓brB_true, ↓brB_false, ↓reduceIte, zA, zB, zC, zD, zE, zF, zG, zH, zI, reduceCtorEq]) | apply And.intro | (intro hg; (try simp only [push_cast] at hg)))
  all_goals try exact gA
  all_goals first | (refine hK9 _ _ ?_; clear hK9 K9) | (simp only [push_cast]; done)
  all_goals simp only [push_cast, ↓brB_true, ↓brB_false, ↓reduceIte, zA, zB, zC, zD, zE, zF, zG, zH, zI, reduceCtorEq]
  all_goals repeat' (first | (apply brB_mk <;> (intro hg; (try simp only [push_cast] at hg))) | (refine ⟨_, hN, ?_⟩; simp only [push_cast, ↓brB_true, ↓brB_false, ↓reduceIte, zA, zB, zC, zD, zE, zF, zG, zH, zI, reduceCtorEq]) | (refine ⟨_, hF, ?_⟩; simp only [push_cast, ↓brB_true, ↓brB_false, ↓reduceIte, zA, zB, zC, zD, zE, zF, zG, zH, zI, reduceCtorEq]) | apply And.intro | (intro hg; (try simp only [push_cast] at hg)))
  all_goals first | exact gA | (refine hE _ _ ?_ ?_; kernel_rfl) | skip
  all_goals clear hE E
  all_goals first | (refine hK _ ?_; clear hK K) | (simp only [push_cast]; done)
  refine awp_seq' fun K hK => ?_
  refine awp_region tyOk tyPos [] rfl ?_
  simp only [push_cast, ↓brB_true, ↓brB_false, ↓reduceIte, zA, zB, zC, zD, zE, zF, zG, zH, zI, reduceCtorEq]
  repeat' apply And.intro
  all_goals try exact gB
  all_goals first | (refine hK _ ?_; clear hK K) | (simp only [push_cast]; done)
  refine awp_ret ?_
  (try simp only [AThen, ABlk])
  refine ⟨Or.inl rfl, ?_⟩
  simp only [RetOk, resVars, resVar, push_cast, ↓brB_true, ↓brB_false, ↓reduceIte, zA, zB, zC, zD, zE, zF, zG, zH, zI, reduceCtorEq]
  all_goals first | rfl | decide | skip
end Go.Proofs.Ytdbecmmeifdafaa
