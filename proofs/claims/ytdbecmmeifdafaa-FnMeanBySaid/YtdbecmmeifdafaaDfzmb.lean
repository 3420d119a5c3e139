/- the dice of the laws: arenas by dice are right; weighted arenas by dice -/
import Derived.Test.YtdbecmmeifdafaaDezmb
namespace Go.Proofs.Ytdbecmmeifdafaa
open Nat renaming reduceMod → zA, reduceMul → zB, reduceDiv → zC, reduceAdd → zD, reduceSub → zE, reduceEqDiff → zF, reduceBEq → zG, reduceLT → zH, reduceLeDiff → zI
open Go.RowKit
set_option linter.unusedVariables false
set_option linter.unusedSimpArgs false

attribute [-push_cast] rm
theorem gi_dL {xs ys : List Int} {k : Nat} (h : k < xs.length) : gi (xs ++ ys) k = gi xs k := by
  unfold gi
  rw [List.getD_eq_getElem?_getD, List.getD_eq_getElem?_getD, List.getElem?_append_left h]
theorem gi_dR (xs : List Int) (y : Int) : gi (xs ++ [y]) xs.length = y := by
  unfold gi
  rw [List.getD_eq_getElem?_getD, List.getElem?_append_right (Nat.le_refl _)]
  simp
theorem gl_dL {xs ys : List (List Int)} {k : Nat} (h : k < xs.length) : gl (xs ++ ys) k = gl xs k := by
  unfold gl
  rw [List.getD_eq_getElem?_getD, List.getD_eq_getElem?_getD, List.getElem?_append_left h]
theorem gl_dR (xs : List (List Int)) (y : List Int) : gl (xs ++ [y]) xs.length = y := by
  unfold gl
  rw [List.getD_eq_getElem?_getD, List.getElem?_append_right (Nat.le_refl _)]
  simp
theorem rowU_at (m : List Bool) : ∀ u k, k < (rowU m u).length → (k = 0 ∨ gi (rowU m u) (k - 1) < gi (rowU m u) k) ∧ 0 ≤ gi (rowU m u) k ∧ gi (rowU m u) k < (u : Int)
  | 0, k, h => absurd h (Nat.not_lt_zero k)
  | u + 1, k, h => by
    have ih := rowU_at m u
    by_cases hm : gb m u = true
    · rw [rowU_yes hm] at h ⊢
      rw [List.length_append, List.length_singleton] at h
      rcases Nat.lt_or_ge k (rowU m u).length with h1 | h1
      · obtain ⟨a, b, c⟩ := ih k h1
        rw [gi_dL h1, gi_dL (by omega : k - 1 < _)]
        exact ⟨a, b, by omega⟩
      · have e : k = (rowU m u).length := by omega
        subst e
        rw [gi_dR]
        refine ⟨?_, by omega, by omega⟩
        rcases Nat.eq_zero_or_pos (rowU m u).length with h2 | h2
        · exact .inl h2
        · right
          rw [gi_dL (by omega)]
          exact (ih _ (by omega)).2.2
    · rw [rowU_no hm] at h ⊢
      obtain ⟨a, b, c⟩ := ih k h
      exact ⟨a, b, by omega⟩
theorem rowU_set (m : List Bool) (u : Nat) : isSetB (rowU m u) u = true :=
  allB_true fun k hk => by
    obtain ⟨a, b, c⟩ := rowU_at m u k hk
    unfold riseAt
    exact decide_eq_true ⟨b, c, a⟩
theorem rowU_pos {m : List Bool} {x : Nat} (h : gb m x = true) : ∀ u, x < u → 1 ≤ (rowU m u).length
  | 0, h' => absurd h' (Nat.not_lt_zero x)
  | u + 1, h' => by
    by_cases hm : gb m u = true
    · rw [rowU_yes hm, List.length_append, List.length_singleton]; omega
    · rw [rowU_no hm]
      refine rowU_pos h u ?_
      rcases Nat.lt_or_ge x u with h2 | h2
      · exact h2
      · exact absurd (by rw [show u = x by omega]; exact h) hm
theorem mks_some {code : List Int} (hby : BytesOk code) (seed : Int) {N : Nat} (hN : 1 ≤ N) (c t : Nat) : ∃ x, x < N ∧ gb (mks code seed N c (t + 1)) x = true := by
  have h := dv_rg hby seed (c + t) (n := (N : Int)) (by omega)
  refine ⟨(dv code seed (c + t) N).toNat, by omega, ?_⟩
  show gb (List.set _ _ true) _ = true
  unfold gb
  rw [List.getD_eq_getElem?_getD, List.getElem?_set_self (by rw [mks_len]; omega)]
  rfl
theorem oA_at {code : List Int} (hby : BytesOk code) (seed : Int) (j : Nat) : ∀ v k, k < v → 0 ≤ gi (oA code seed j v) k ∧ gi (oA code seed j v) k ≤ 1
  | 0, k, h => absurd h (Nat.not_lt_zero k)
  | v + 1, k, h => by
    show 0 ≤ gi (oA code seed j v ++ [_]) k ∧ gi (oA code seed j v ++ [_]) k ≤ 1
    have hl := oA_len code seed j v
    rcases Nat.lt_or_ge k v with h1 | h1
    · rw [gi_dL (by omega)]; exact oA_at hby seed j v k h1
    · rw [show k = (oA code seed j v).length by omega, gi_dR]
      have := dv_rg hby seed (cA code seed j v + 1 + (rK code seed (cA code seed j v) + 1)) (n := 2) (by omega)
      omega
theorem xA_at {code : List Int} (hby : BytesOk code) (seed : Int) {N : Nat} (hN : 1 ≤ N) (j : Nat) : ∀ v k, k < v → ∃ m x, x < N ∧ gb m x = true ∧ gl (xA code seed N j v) k = rowU m N
  | 0, k, h => absurd h (Nat.not_lt_zero k)
  | v + 1, k, h => by
    show ∃ m x, x < N ∧ gb m x = true ∧ gl (xA code seed N j v ++ [_]) k = rowU m N
    have hl := xA_len code seed N j v
    rcases Nat.lt_or_ge k v with h1 | h1
    · obtain ⟨m, x, a, b, c⟩ := xA_at hby seed hN j v k h1
      exact ⟨m, x, a, b, by rw [gl_dL (by omega)]; exact c⟩
    · obtain ⟨x, a, b⟩ := mks_some hby seed hN (cA code seed j v + 1) (rK code seed (cA code seed j v))
      exact ⟨_, x, a, b, by rw [show k = (xA code seed N j v).length by omega, gl_dR]⟩
theorem arN_le {code : List Int} (hby : BytesOk code) (seed : Int) (j : Nat) {most : Int} (hm : 1 ≤ most ∧ most ≤ 16) : 1 ≤ arN code seed j most ∧ (arN code seed j most : Int) ≤ most := by
  have := dv_rg hby seed j hm.1
  unfold arN
  omega
theorem arA_len {code : List Int} {seed : Int} {j : Nat} {most : Int} : (arA code seed j most).owner.length = arN code seed j most ∧ (arA code seed j most).next.length = arN code seed j most := ⟨oA_len _ _ _ _, xA_len _ _ _ _ _⟩
theorem arA_ok {code : List Int} (hby : BytesOk code) (seed : Int) (j : Nat) {most : Int} (hm : 1 ≤ most ∧ most ≤ 16) : arenaB (arA code seed j most) = true := by
  have hN := arN_le hby seed j hm
  obtain ⟨h1, h2⟩ := arA_len (code := code) (seed := seed) (j := j) (most := most)
  refine arenaB_true ⟨by omega, by omega, by omega⟩ fun v hv => ?_
  rw [h1] at hv
  unfold arenaAt ownAt
  rw [h1]
  have ho : 0 ≤ gi (arA code seed j most).owner v ∧ gi (arA code seed j most).owner v ≤ 1 := oA_at hby seed j _ v hv
  obtain ⟨m, x, ha, hb, hc⟩ := xA_at hby seed hN.1 j (arN code seed j most) v hv
  rw [show gl (arA code seed j most).next v = rowU m (arN code seed j most) from hc, decide_eq_true, Bool.true_and]
  · exact rowU_set _ _
  · have := rowU_pos hb _ ha
    have := rowU_len m (arN code seed j most)
    exact ⟨ho.1, ho.2, by omega, by omega⟩
/-- A row of costs. -/
def rC (code : List Int) (seed size : Int) (c : Nat) : Nat → List Int
  | 0 => []
  | k + 1 => rC code seed size c k ++ [dv code seed (c + k) (2 * size + 1) - size]
def cC (a : Ar) (j : Nat) : Nat → Nat
  | 0 => j
  | v + 1 => cC a j v + (gl a.next v).length
def xC (code : List Int) (seed size : Int) (a : Ar) (j : Nat) : Nat → List (List Int)
  | 0 => []
  | v + 1 => xC code seed size a j v ++ [rC code seed size (cC a j v) (gl a.next v).length]
theorem rC_len (code : List Int) (seed size : Int) (c : Nat) : ∀ k, (rC code seed size c k).length = k
  | 0 => rfl
  | k + 1 => by simp [rC, rC_len code seed size c k]
theorem xC_len (code : List Int) (seed size : Int) (a : Ar) (j : Nat) : ∀ v, (xC code seed size a j v).length = v
  | 0 => rfl
  | v + 1 => by simp [xC, xC_len code seed size a j v]
theorem rC_at {code : List Int} (hby : BytesOk code) (seed : Int) {size : Int} (hs : 1 ≤ size) (c : Nat) : ∀ v k, k < v → -size ≤ gi (rC code seed size c v) k ∧ gi (rC code seed size c v) k ≤ size
  | 0, k, h => absurd h (Nat.not_lt_zero k)
  | v + 1, k, h => by
    show -size ≤ gi (rC code seed size c v ++ [_]) k ∧ gi (rC code seed size c v ++ [_]) k ≤ size
    have hl := rC_len code seed size c v
    rcases Nat.lt_or_ge k v with h1 | h1
    · rw [gi_dL (by omega)]; exact rC_at hby seed hs c v k h1
    · rw [show k = (rC code seed size c v).length by omega, gi_dR]
      have := dv_rg hby seed (c + v) (n := 2 * size + 1) (by omega)
      omega
theorem xC_at (code : List Int) (seed size : Int) (a : Ar) (j : Nat) : ∀ v k, k < v → gl (xC code seed size a j v) k = rC code seed size (cC a j k) (gl a.next k).length
  | 0, k, h => absurd h (Nat.not_lt_zero k)
  | v + 1, k, h => by
    show gl (xC code seed size a j v ++ [_]) k = _
    have hl := xC_len code seed size a j v
    rcases Nat.lt_or_ge k v with h1 | h1
    · rw [gl_dL (by omega)]; exact xC_at code seed size a j v k h1
    · have e : k = v := by omega
      subst e
      rw [show gl (xC code seed size a j k ++ [rC code seed size (cC a j k) (gl a.next k).length]) k = gl (xC code seed size a j k ++ [rC code seed size (cC a j k) (gl a.next k).length]) (xC code seed size a j k).length by rw [hl], gl_dR]
def wtW (code : List Int) (seed : Int) (j : Nat) (most size : Int) : Wt := ⟨arA code seed j most, xC code seed size (arA code seed j most) (arJ code seed j most) (arA code seed j most).next.length⟩
def wtJ (code : List Int) (seed : Int) (j : Nat) (most : Int) : Nat := cC (arA code seed j most) (arJ code seed j most) (arA code seed j most).next.length
theorem wtW_ok {code : List Int} (hby : BytesOk code) (seed : Int) (j : Nat) {most size : Int} (hm : 1 ≤ most ∧ most ≤ 16) (hs : 1 ≤ size ∧ size ≤ 1000) : weightedB (wtW code seed j most size) = true := by
  have hN := arN_le hby seed j hm
  obtain ⟨h1, h2⟩ := arA_len (code := code) (seed := seed) (j := j) (most := most)
  have h3 := xC_len code seed size (arA code seed j most) (arJ code seed j most) (arA code seed j most).next.length
  have ho : arenaB (wtW code seed j most size).a = true := arA_ok hby seed j hm
  have h4 : decide ((wtW code seed j most size).a.owner.length ≤ 24) = true := decide_eq_true (by show (arA code seed j most).owner.length ≤ 24; omega)
  unfold weightedB
  rw [ho, h4]
  refine costsB_true h3 fun v hv => ?_
  have hv' : v < (arA code seed j most).next.length := by rw [← h3]; exact hv
  have e : gl (wtW code seed j most size).cost v = rC code seed size (cC (arA code seed j most) (arJ code seed j most) v) (gl (arA code seed j most).next v).length := xC_at _ _ _ _ _ _ v hv'
  refine costAt_true (by rw [e, rC_len]; rfl) fun k hk => ?_
  rw [e] at hk ⊢
  rw [rC_len] at hk
  have := rC_at hby seed hs.1 (cC (arA code seed j most) (arJ code seed j most) v) _ k hk
  unfold inCost
  exact decide_eq_true ⟨by omega, by omega⟩
set_option maxRecDepth 20000 in
set_option maxHeartbeats 4000000 in
theorem w6Weighted_fn (code : List Int) (hby : BytesOk code) (seed : Int) (j : Nat) (most size : Int) (hm : 1 ≤ most ∧ most ≤ 16) (hs : 1 ≤ size ∧ size ≤ 1000) : FnB Try.prog tyT 12 (dSt code seed j) [.c (.int .i64 most), .c (.int .i64 size)] (dSt code seed (wtJ code seed j most)) [.agg (dWt (wtW code seed j most size))] := by
  have hcl := hby.1
  have hB0 := w6Arena_fn code hby seed j most hm
  have hN := arN_le hby seed j hm
  have hal := arA_len (code := code) (seed := seed) (j := j) (most := most)
  have ha := arA_ok hby seed j hm
  unfold wtJ wtW
  generalize arJ code seed j most = j1 at hB0 ⊢
  generalize arA code seed j most = a at hB0 hal ha ⊢
  have hnl : a.next.length ≤ 16 := by omega
  have hol : a.owner.length ≤ 16 := by omega
  have hrl : ∀ v, v < a.next.length → (gl a.next v).length ≤ 16 := fun v hv => (arenaB_at ha (v := v) (by omega)).2.2.2.1
  have hB1 := fun k => draw_fn hby seed k (2 * size + 1) (by omega)
  unfold dWt
  unfold dAr at hB0
  refine FnB_of (fn := Try.f12) (rs := [.cell 6 32]) tyOk tyPos Try.func12 (by kernel_rfl) rfl rfl (by rw [Try.ntmps12]; exact Nat.le_of_ble_eq_true rfl) rfl (by simp only [szA, List.mem_cons, List.not_mem_nil, or_false, forall_eq_or_imp, forall_eq, VT.cells, szL]; try decide) (Nat.le_of_ble_eq_true rfl) (by simp only [szL]; decide) (Nat.le_of_ble_eq_true rfl) rfl ?_
  rw [Try.ntmps12]
  simp only [push_cast, ↓brB_true, ↓brB_false, ↓reduceIte, zA, zB, zC, zD, zE, zF, zG, zH, zI, reduceCtorEq]
  refine awp_seq' fun K hK => ?_
  refine awp_region tyOk tyPos [] rfl ?_
  all_goals simp only [push_cast, ↓brB_true, ↓brB_false, ↓reduceIte, zA, zB, zC, zD, zE, zF, zG, zH, zI, reduceCtorEq]
  all_goals repeat' (first | (apply brB_mk <;> (intro hg; (try simp only [push_cast] at hg))) | apply And.intro | (intro hg; (try simp only [push_cast] at hg)))
  all_goals first | exact True.intro | exact rfl | contradiction | omega | with_reducible assumption | (exact getE_dII (by omega)) | skip
  all_goals first | (refine hK _ ?_; clear hK K) | (simp only [push_cast]; done)
  refine awp_seq' fun K hK => ?_
  refine awp_regionN false tyOk tyPos ?_ rfl ?_
  · kernel_rfl
  all_goals refine seqE_cut 3 fun K9 hK9 => ?_
  all_goals simp only [push_cast, ↓brB_true, ↓brB_false, ↓reduceIte, zA, zB, zC, zD, zE, zF, zG, zH, zI, reduceCtorEq]
  all_goals repeat' (first | (apply brB_mk <;> (intro hg; (try simp only [push_cast] at hg))) | (refine ⟨_, _, hB0, ?_⟩; simp only [push_cast, ↓brB_true, ↓brB_false, ↓reduceIte, zA, zB, zC, zD, zE, zF, zG, zH, zI, reduceCtorEq]) | apply And.intro | (intro hg; (try simp only [push_cast] at hg)))
  all_goals first | exact True.intro | exact rfl | contradiction | omega | with_reducible assumption | (exact getE_dII (by omega)) | skip
  all_goals first | (refine hK9 _ ?_; clear hK9 K9) | (simp only [push_cast]; done)
  all_goals simp only [push_cast, ↓brB_true, ↓brB_false, ↓reduceIte, zA, zB, zC, zD, zE, zF, zG, zH, zI, reduceCtorEq]
  all_goals repeat' (first | (apply brB_mk <;> (intro hg; (try simp only [push_cast] at hg))) | (refine ⟨_, _, hB0, ?_⟩; simp only [push_cast, ↓brB_true, ↓brB_false, ↓reduceIte, zA, zB, zC, zD, zE, zF, zG, zH, zI, reduceCtorEq]) | apply And.intro | (intro hg; (try simp only [push_cast] at hg)))
  all_goals first | exact True.intro | exact rfl | contradiction | omega | with_reducible assumption | (exact getE_dII (by omega)) | skip
  all_goals first | (refine hK _ ?_; clear hK K) | (simp only [push_cast]; done)
  refine awp_seq' fun K1 hK1 => ?_
  refine awp_settleB [.sl 2, .sl 27, .sl 27] 7 ?_
  simp only [push_cast, ↓brB_true, ↓brB_false, ↓reduceIte, zA, zB, zC, zD, zE, zF, zG, zH, zI, reduceCtorEq]
  refine awp_seq' fun K hK => ?_
  refine awp_region tyOk tyPos [] rfl ?_
  all_goals simp only [push_cast, ↓brB_true, ↓brB_false, ↓reduceIte, zA, zB, zC, zD, zE, zF, zG, zH, zI, reduceCtorEq]
  all_goals repeat' (first | (apply brB_mk <;> (intro hg; (try simp only [push_cast] at hg))) | apply And.intro | (intro hg; (try simp only [push_cast] at hg)))
  all_goals first | exact True.intro | exact rfl | contradiction | omega | with_reducible assumption | (exact getE_dII (by omega)) | skip
  all_goals first | (refine hK _ ?_; clear hK K) | (simp only [push_cast]; done)
  refine awp_block ?_
  refine awp_loopU [7,8,9,10,15,16,17,18,19,20,21,22,23,24,25,26,27,28,29,30,31,32,33,34,35,36,37,38,39,40,41,42,43,44,45,46,47,48,49,50,1000000] [] (fun (v : Nat) => [(8, .int .i64 v), (7, .bp 7 0)]) (fun v => [(7, [.sl 112 [] 0 a.owner.length 2, .sl 113 [] 0 a.next.length 27, .sl 114 [] 0 v 27]), (1000000, [.sl 16000000 [] 0 code.length 5, .int .i64 (nI code (cC a j1 v)), .int .u64 (nH code seed (cC a j1 v))])]) (fun v => [(112, ⟨.ex, 2, dI a.owner, none⟩), (113, ⟨.ex, 27, dII a.next, none⟩), (114, ⟨.ex, 27, dII (xC code seed size a j1 v), none⟩), (16000000, ⟨.sh, 5, dU code, some 16000000⟩)]) (fun v => v ≤ a.next.length) (fun v => a.next.length - v) 0 ?_ (by omega) ?_
  ·
    rw [show dII (xC code seed size a j1 0) = [] from rfl, show cC a j1 0 = j1 from rfl]
    refine cov_of rfl ?_ ?_ ?_ <;> simp only [covS, covL, push_cast, ↓brB_true, ↓brB_false, ↓reduceIte, zA, zB, zC, zD, zE, zF, zG, zH, zI, reduceCtorEq]
  · rintro v hv KL0 hL0
    have hxl := xC_len code seed size a j1 v
    simp only [push_cast, ↓brB_true, ↓brB_false, ↓reduceIte, zA, zB, zC, zD, zE, zF, zG, zH, zI, reduceCtorEq]
    refine awp_seq' fun K2 hK2 => ?_
    refine awp_seq' fun K hK => ?_
    refine awp_region tyOk tyPos [] rfl ?_
    all_goals simp only [push_cast, ↓brB_true, ↓brB_false, ↓reduceIte, zA, zB, zC, zD, zE, zF, zG, zH, zI, reduceCtorEq]
    all_goals repeat' (first | (apply brB_mk <;> (intro hg; (try simp only [push_cast] at hg))) | apply And.intro | (intro hg; (try simp only [push_cast] at hg)))
    all_goals first | exact True.intro | exact rfl | contradiction | omega | with_reducible assumption | (exact getE_dII (by omega)) | skip
    all_goals first | (refine hK _ ?_; clear hK K) | (simp only [push_cast]; done)
    refine awp_cond rfl (fun hc => ?_) (fun hc => ?_) <;> (try simp only [push_cast] at hc)
    ·
      refine awp_skip ?_
      (try simp only [AThen, ABlk, reduceIte, zF]); refine hK2 _ ?_
      refine awp_seq' fun K3 hK3 => ?_
      refine awp_block ?_
      refine awp_seq' fun K hK => ?_
      refine awp_region tyOk tyPos [] rfl ?_
      all_goals simp only [push_cast, ↓brB_true, ↓brB_false, ↓reduceIte, zA, zB, zC, zD, zE, zF, zG, zH, zI, reduceCtorEq]
      all_goals repeat' (first | (apply brB_mk <;> (intro hg; (try simp only [push_cast] at hg))) | apply And.intro | (intro hg; (try simp only [push_cast] at hg)))
      all_goals first | exact True.intro | exact rfl | contradiction | omega | with_reducible assumption | (exact getE_dII (by omega)) | skip
      all_goals first | (refine hK _ ?_; clear hK K) | (simp only [push_cast]; done)
      refine awp_seq' fun K4 hK4 => ?_
      refine awp_seq' fun K hK => ?_
      refine awp_region tyOk tyPos [] rfl ?_
      all_goals simp only [push_cast, ↓brB_true, ↓brB_false, ↓reduceIte, zA, zB, zC, zD, zE, zF, zG, zH, zI, reduceCtorEq]
      all_goals repeat' (first | (apply brB_mk <;> (intro hg; (try simp only [push_cast] at hg))) | apply And.intro | (intro hg; (try simp only [push_cast] at hg)))
      all_goals first | exact True.intro | exact rfl | contradiction | omega | with_reducible assumption | (exact getE_dII (by omega)) | skip
      all_goals first | (refine hK _ ?_; clear hK K) | (simp only [push_cast]; done)
      refine awp_block ?_
      refine awp_loopU [9,10,24,25,26,27,28,29,30,31,32,33,34,35,36,37,38,39,40,41,42,43,44,1000000] [144] (fun (k : Nat) => [(10, .int .i64 k), (9, .sl 144 [] 0 k 2)]) (fun k => [(1000000, [.sl 16000000 [] 0 code.length 5, .int .i64 (nI code (cC a j1 v + k)), .int .u64 (nH code seed (cC a j1 v + k))])]) (fun k => [(144, ⟨.ex, 2, dI (rC code seed size (cC a j1 v) k), none⟩), (16000000, ⟨.sh, 5, dU code, some 16000000⟩)]) (fun k => k ≤ (gl a.next v).length) (fun k => (gl a.next v).length - k) 0 ?_ (by omega) ?_
      ·
        rw [show rC code seed size (cC a j1 v) 0 = [] from rfl, show dI [] = [] from rfl]
        refine cov_of rfl ?_ ?_ ?_ <;> simp only [covS, covL, push_cast, ↓brB_true, ↓brB_false, ↓reduceIte, zA, zB, zC, zD, zE, zF, zG, zH, zI, reduceCtorEq]
      · rintro k hk KL1 hL1
        have hkl := rC_len code seed size (cC a j1 v) k
        simp only [push_cast, ↓brB_true, ↓brB_false, ↓reduceIte, zA, zB, zC, zD, zE, zF, zG, zH, zI, reduceCtorEq]
        refine awp_seq' fun K5 hK5 => ?_
        have hrv := hrl v (by omega)
        refine awp_seq' fun K hK => ?_
        refine awp_region tyOk tyPos [] rfl ?_
        all_goals simp only [push_cast, ↓brB_true, ↓brB_false, ↓reduceIte, zA, zB, zC, zD, zE, zF, zG, zH, zI, reduceCtorEq]
        all_goals repeat' (first | (apply brB_mk <;> (intro hg; (try simp only [push_cast] at hg))) | apply And.intro | (intro hg; (try simp only [push_cast] at hg)))
        all_goals first | exact True.intro | exact rfl | contradiction | omega | with_reducible assumption | (exact getE_dII (by omega)) | skip
        all_goals first | (refine hK _ ?_; clear hK K) | (simp only [push_cast]; done)
        refine awp_cond rfl (fun hc => ?_) (fun hc => ?_) <;> (try simp only [push_cast] at hc)
        ·
          refine awp_skip ?_
          (try simp only [AThen, ABlk, reduceIte, zF]); refine hK5 _ ?_
          refine awp_seq' fun K6 hK6 => ?_
          refine awp_block ?_
          have hr1 := dv_rg hby seed (cC a j1 v + k) (n := 2 * size + 1) (by omega)
          refine awp_regionN false tyOk tyPos ?_ rfl ?_
          · kernel_rfl
          all_goals refine seqE_cut 6 fun K9 hK9 => ?_
          all_goals simp only [push_cast, ↓brB_true, ↓brB_false, ↓reduceIte, zA, zB, zC, zD, zE, zF, zG, zH, zI, reduceCtorEq]
          all_goals repeat' (first | (apply brB_mk <;> (intro hg; (try simp only [push_cast] at hg))) | (refine ⟨_, _, hB1 (cC a j1 v + k), ?_⟩; simp only [push_cast, ↓brB_true, ↓brB_false, ↓reduceIte, zA, zB, zC, zD, zE, zF, zG, zH, zI, reduceCtorEq]) | apply And.intro | (intro hg; (try simp only [push_cast] at hg)))
          all_goals first | exact True.intro | exact rfl | contradiction | omega | with_reducible assumption | (exact getE_dII (by omega)) | skip
          all_goals first | (refine hK9 _ ?_; clear hK9 K9) | (simp only [push_cast]; done)
          all_goals simp only [push_cast, ↓brB_true, ↓brB_false, ↓reduceIte, zA, zB, zC, zD, zE, zF, zG, zH, zI, reduceCtorEq]
          all_goals repeat' (first | (apply brB_mk <;> (intro hg; (try simp only [push_cast] at hg))) | (refine ⟨_, _, hB1 (cC a j1 v + k), ?_⟩; simp only [push_cast, ↓brB_true, ↓brB_false, ↓reduceIte, zA, zB, zC, zD, zE, zF, zG, zH, zI, reduceCtorEq]) | apply And.intro | (intro hg; (try simp only [push_cast] at hg)))
          all_goals first | exact True.intro | exact rfl | contradiction | omega | with_reducible assumption | (exact getE_dII (by omega)) | skip
          (try simp only [AThen, ABlk, reduceIte, zF]); refine hK6 _ ?_
          refine awp_settle 2 9 (Nat.le_of_ble_eq_true rfl) ?_
          simp only [push_cast, ↓brB_true, ↓brB_false, ↓reduceIte, zA, zB, zC, zD, zE, zF, zG, zH, zI, reduceCtorEq]
          refine awp_region tyOk tyPos [] rfl ?_
          all_goals simp only [push_cast, ↓brB_true, ↓brB_false, ↓reduceIte, zA, zB, zC, zD, zE, zF, zG, zH, zI, reduceCtorEq]
          all_goals repeat' (first | (apply brB_mk <;> (intro hg; (try simp only [push_cast] at hg))) | apply And.intro | (intro hg; (try simp only [push_cast] at hg)))
          all_goals first | exact True.intro | exact rfl | contradiction | omega | with_reducible assumption | (exact getE_dII (by omega)) | skip
          refine hL1 _ ⟨k + 1, by omega, by omega, ?_⟩
          (try rw [List.take_of_length_le (l := rC code seed size (cC a j1 v) k) (by omega)])
          refine cov_of rfl ?_ ?_ ?_ <;> simp only [covS, covL, push_cast, ↓brB_true, ↓brB_false, ↓reduceIte, zA, zB, zC, zD, zE, zF, zG, zH, zI, reduceCtorEq]
          all_goals first | exact rfl | exact ⟨rfl, rfl⟩ | skip
        ·
          refine awp_exit ?_
          have hkk : k = (gl a.next v).length := by omega
          subst hkk
          (try simp only [AThen, ABlk, reduceIte, zF]); refine hK4 _ ?_
          refine awp_regionN false tyOk tyPos ?_ rfl ?_
          · kernel_rfl
          simp only [push_cast, ↓brB_true, ↓brB_false, ↓reduceIte, zA, zB, zC, zD, zE, zF, zG, zH, zI, reduceCtorEq]
          all_goals repeat' (first | (apply brB_mk <;> (intro hg; (try simp only [push_cast] at hg))) | apply And.intro | (intro hg; (try simp only [push_cast] at hg)))
          all_goals first | exact True.intro | exact rfl | contradiction | omega | with_reducible assumption | (exact getE_dII (by omega)) | skip
          (try simp only [AThen, ABlk, reduceIte, zF]); refine hK3 _ ?_
          refine awp_settleB [.sl 2, .sl 27, .sl 27] 7 ?_
          simp only [push_cast, ↓brB_true, ↓brB_false, ↓reduceIte, zA, zB, zC, zD, zE, zF, zG, zH, zI, reduceCtorEq]
          refine awp_region tyOk tyPos [] rfl ?_
          all_goals simp only [push_cast, ↓brB_true, ↓brB_false, ↓reduceIte, zA, zB, zC, zD, zE, zF, zG, zH, zI, reduceCtorEq]
          all_goals repeat' (first | (apply brB_mk <;> (intro hg; (try simp only [push_cast] at hg))) | apply And.intro | (intro hg; (try simp only [push_cast] at hg)))
          all_goals first | exact True.intro | exact rfl | contradiction | omega | with_reducible assumption | (exact getE_dII (by omega)) | skip
          refine hL0 _ ⟨v + 1, by omega, by omega, ?_⟩
          (try rw [List.take_of_length_le (l := xC code seed size a j1 v) (by omega)])
          (try rw [List.take_of_length_le (l := rC code seed size (cC a j1 v) (gl a.next v).length) (by omega)])
          refine cov_of rfl ?_ ?_ ?_ <;> simp only [covS, covL, push_cast, ↓brB_true, ↓brB_false, ↓reduceIte, zA, zB, zC, zD, zE, zF, zG, zH, zI, reduceCtorEq]
          all_goals first | exact rfl | exact ⟨rfl, rfl⟩ | skip
    ·
      refine awp_exit ?_
      have hvv : v = a.next.length := by omega
      subst hvv
      (try simp only [AThen, ABlk, reduceIte, zF]); refine hK1 _ ?_
      refine awp_seq' fun K hK => ?_
      refine awp_region tyOk tyPos [] rfl ?_
      all_goals simp only [push_cast, ↓brB_true, ↓brB_false, ↓reduceIte, zA, zB, zC, zD, zE, zF, zG, zH, zI, reduceCtorEq]
      all_goals repeat' (first | (apply brB_mk <;> (intro hg; (try simp only [push_cast] at hg))) | apply And.intro | (intro hg; (try simp only [push_cast] at hg)))
      all_goals first | exact True.intro | exact rfl | contradiction | omega | with_reducible assumption | (exact getE_dII (by omega)) | skip
      all_goals first | (refine hK _ ?_; clear hK K) | (simp only [push_cast]; done)
      refine awp_ret ?_
      (try simp only [AThen, ABlk])
      refine ⟨Or.inl rfl, ?_⟩
      simp only [RetB, RetOk, cellsB, resVars, resVar, push_cast, ↓brB_true, ↓brB_false, ↓reduceIte, zA, zB, zC, zD, zE, zF, zG, zH, zI, reduceCtorEq]
      all_goals first | rfl | exact hxl.symm | exact ⟨by decide, hxl.symm⟩ | skip
end Go.Proofs.Ytdbecmmeifdafaa
