/- The attractor, as the reference reckons it: the walk -/
import Derived.Test.YtdbecmmeifdafaaB7zbm
import Derived.Test.YtdbecmmeifdafaaB5zbm
import Derived.Test.YtdbecmmeifdafaaB4zbm
namespace Go.Proofs.Ytdbecmmeifdafaa
open Nat renaming reduceMod → zA, reduceMul → zB, reduceDiv → zC, reduceAdd → zD, reduceSub → zE, reduceEqDiff → zF, reduceBEq → zG, reduceLT → zH, reduceLeDiff → zI
open Go.RowKit
set_option linter.unusedVariables false
set_option linter.unusedSimpArgs false

theorem bool_cl {b : Bool} {P : Prop} (h1 : b = true) (h2 : b = false) : P := by rw [h1] at h2; cases h2
theorem hasB_ex {xs : List Int} {u : Int} : hasB xs u = true ↔ ∃ i, i < xs.length ∧ gi xs i = u := by
  rw [hasB_iff]
  constructor
  · intro h
    obtain ⟨i, hi⟩ := List.getElem?_of_mem h
    have hl : i < xs.length := (List.getElem?_eq_some_iff.1 hi).1
    refine ⟨i, hl, ?_⟩
    have := gi_lt hl
    rw [hi] at this
    exact (Option.some.inj this).symm
  · rintro ⟨i, hi, rfl⟩
    exact List.mem_of_getElem? (gi_lt hi)
theorem gi_take {xs : List Int} {k i : Nat} (h : i < k) : gi (xs.take k) i = gi xs i := by
  unfold gi
  rw [List.getD_eq_getElem?_getD, List.getD_eq_getElem?_getD, List.getElem?_take, if_pos h]
theorem hasB_take {xs : List Int} {k : Nat} (h : k < xs.length) (u : Int) : hasB (xs.take (k + 1)) u = (hasB (xs.take k) u || decide (u = gi xs k)) := by
  rw [Bool.eq_iff_iff, Bool.or_eq_true, decide_eq_true_eq, hasB_ex, hasB_ex]
  constructor
  · rintro ⟨i, hi, e⟩
    rw [List.length_take] at hi
    rw [gi_take (by omega)] at e
    by_cases hk : i = k
    · subst hk; exact .inr e.symm
    · exact .inl ⟨i, by rw [List.length_take]; omega, by rw [gi_take (by omega)]; exact e⟩
  · rintro (⟨i, hi, e⟩ | e)
    · rw [List.length_take] at hi
      rw [gi_take (by omega)] at e
      exact ⟨i, by rw [List.length_take]; omega, by rw [gi_take (by omega)]; exact e⟩
    · exact ⟨k, by rw [List.length_take]; omega, by rw [gi_take (by omega)]; exact e.symm⟩
def PK (x : L7) (qi : List Int) (u0 : Int) (k : Nat) (v : Nat) (u : Int) : Bool := hasB qi u || (decide (u = u0) && hasB ((gl x.prev u0.toNat).take k) (v : Int))
theorem PK_s {x : L7} {qi : List Int} {u0 : Int} {k : Nat} (hk : k < (gl x.prev u0.toNat).length) (h0 : 0 ≤ gi (gl x.prev u0.toNat) k) (v : Nat) (u : Int) : PK x qi u0 (k + 1) v u = (PK x qi u0 k v u || (decide (v = (gi (gl x.prev u0.toNat) k).toNat) && decide (u = u0))) := by
  unfold PK
  rw [hasB_take hk, Bool.eq_iff_iff]
  simp only [Bool.or_eq_true, Bool.and_eq_true, decide_eq_true_eq]
  have : ((v : Int) = gi (gl x.prev u0.toNat) k) ↔ v = (gi (gl x.prev u0.toNat) k).toNat := by omega
  rw [this]
  constructor
  · rintro (h | ⟨h1, h2 | h2⟩)
    · exact .inl (.inl h)
    · exact .inl (.inr ⟨h1, h2⟩)
    · exact .inr ⟨h2, h1⟩
  · rintro ((h | h) | h)
    · exact .inl h
    · exact .inr ⟨h.1, .inl h.2⟩
    · exact .inr ⟨h.2, .inr h.1⟩
section
variable {x : L7} {n : Nat} {inn goal out : List Bool} {who : Int} {left queue : List Int}
theorem PK_new {P : Nat → Int → Bool} (hx : x.Ok n) (h : AtI x n inn who goal out left queue P) {i : Nat} (hi : i < queue.length) {k : Nat} (hk : k < (gl x.prev (gi queue i).toNat).length) : PK x (queue.take i) (gi queue i) k (gi (gl x.prev (gi queue i).toNat) k).toNat (gi queue i) = false := by
  have hr := h.qrg i hi
  have hp := hx.pin (gi queue i).toNat (by omega) k hk
  unfold PK
  rw [Bool.or_eq_false_iff, Bool.and_eq_false_iff]
  refine ⟨Bool.eq_false_iff.2 fun e => ?_, .inr (Bool.eq_false_iff.2 fun e => ?_)⟩
  · obtain ⟨j, hj, e2⟩ := hasB_ex.1 e
    rw [List.length_take] at hj
    rw [gi_take (by omega)] at e2
    exact h.qnd j i (by omega) hi e2
  · obtain ⟨j, hj, e2⟩ := hasB_ex.1 e
    rw [List.length_take] at hj
    rw [gi_take (by omega), Int.toNat_of_nonneg hp.1.1] at e2
    exact hx.pnd (gi queue i).toNat (by omega) j k (by omega) hk e2
theorem PK_begin {i : Nat} (h : AtI x n inn who goal out left queue (fun _ u => hasB (queue.take i) u)) : AtI x n inn who goal out left queue (PK x (queue.take i) (gi queue i) 0) :=
  h.cong fun v hv j hj => by
    unfold PK
    have : hasB ((gl x.prev (gi queue i).toNat).take 0) (v : Int) = false := rfl
    rw [this, Bool.and_false, Bool.or_false]
theorem PK_end (hx : x.Ok n) {i : Nat} (hi : i < queue.length) {qi : List Int} (hq : queue.take i = qi) {u0 : Int} (hu : gi queue i = u0) {k : Nat} (hk : k = (gl x.prev u0.toNat).length) (h : AtI x n inn who goal out left queue (PK x qi u0 k)) : AtI x n inn who goal out left queue (fun _ u => hasB (queue.take (i + 1)) u) :=
  h.cong fun v hv j hj => by
    subst hu; subst hq; subst hk
    rw [hasB_take hi]
    unfold PK
    rw [List.take_length]
    by_cases e : gi (gl x.next v) j = gi queue i
    · obtain ⟨m, hm, e2⟩ := hx.pal v hv j hj
      rw [e] at hm e2
      have : hasB (gl x.prev (gi queue i).toNat) (v : Int) = true := hasB_ex.2 ⟨m, hm, e2⟩
      rw [this, decide_eq_true e]
      rfl
    · rw [decide_eq_false e]; rfl
theorem AtI.qle {P : Nat → Int → Bool} (h : AtI x n inn who goal out left queue P) : queue.length ≤ n := by
  have hl : ((List.range queue.length).map fun j => (gi queue j).toNat).length = queue.length := by simp
  rw [← hl]
  have hnd : ((List.range queue.length).map fun j => (gi queue j).toNat).Nodup := by
    rw [List.nodup_iff_pairwise_ne, List.pairwise_map]
    refine List.Pairwise.imp_of_mem ?_ (List.pairwise_lt_range)
    intro a b ha hb hab e
    have h1 := h.qrg a (List.mem_range.1 ha)
    have h2 := h.qrg b (List.mem_range.1 hb)
    exact h.qnd a b hab (List.mem_range.1 hb) (by omega)
  have := List.Nodup.length_le_of_subset (l₂ := List.range n) hnd (fun y hy => by
    obtain ⟨j, hj, rfl⟩ := List.mem_map.1 hy
    have := h.qrg j (List.mem_range.1 hj)
    exact List.mem_range.2 (by omega))
  simpa using this
theorem AtI.qin {P : Nat → Int → Bool} (h : AtI x n inn who goal out left queue P) {i : Nat} (hi : i < queue.length) : (0 ≤ gi queue i ∧ gi queue i < n) ∧ gb out (gi queue i).toNat = true ∧ gb inn (gi queue i).toNat = true := by
  have hr := h.qrg i hi
  have ho := (h.qout (gi queue i).toNat (by omega)).2 ⟨i, hi, by omega⟩
  exact ⟨hr, ho, (h.sound _ (by omega) ho).inD.2⟩
theorem AtI.end' (hx : x.Ok n) (h : AtI x n inn who goal out left queue (fun _ u => hasB (queue.take queue.length) u)) : out = attB x n inn who goal :=
  h.result hx fun v hv j hj hb => by
    have hto := hx.to v hv j hj
    obtain ⟨i, hi, e⟩ := (h.qout _ (by omega)).1 hb
    rw [List.take_length]
    exact hasB_ex.2 ⟨i, hi, by omega⟩
theorem At0.next {k : Nat} (h : At0 x n inn goal k out left queue) (hk : k < n) :
    (gb inn k = false → At0 x n inn goal (k + 1) out left queue) ∧ (gb inn k = true → gb goal k = false → At0 x n inn goal (k + 1) out (left.set k (degL x inn k)) queue) ∧
    (gb inn k = true → gb goal k = true → At0 x n inn goal (k + 1) (out.set k true) (left.set k (degL x inn k)) (queue ++ [(k : Int)])) := by
  have hll : k < left.length := by rw [h.ll]; exact hk
  have hlo : k < out.length := by rw [h.lo]; exact hk
  have hlef : gb inn k = true → ∀ v, v < k + 1 → gb inn v = true → gi (left.set k (degL x inn k)) v = degL x inn v := fun _ v hv hb => by
    rw [gi_setI hll]
    split
    · rename_i e; rw [e]
    · exact h.lef v (by omega) hb
  have hq2 : ∀ i, i < queue.length → 0 ≤ gi queue i ∧ gi queue i < ((k + 1 : Nat) : Int) := fun i hi => by have := h.qrg i hi; omega
  have hstay : (gb inn k && gb goal k) = false → ∀ v, v < n → gb out v = (decide (v < k + 1) && (gb inn v && gb goal v)) := fun hb v hv => by
    rw [h.outs v hv]
    by_cases e : v = k
    · rw [e, hb, Bool.and_false, Bool.and_false]
    · have : decide (v < k) = decide (v < k + 1) := decide_eq_decide.2 (by omega)
      rw [this]
  refine ⟨fun h1 => ⟨h.lo, h.ll, by have := h.lq; omega, hq2, h.qnd, h.qout, hstay (by rw [h1]; rfl), fun v hv hb => ?_⟩, fun h1 h2 => ⟨h.lo, by rw [List.length_set]; exact h.ll, by have := h.lq; omega, hq2, h.qnd, h.qout, hstay (by rw [h2, Bool.and_false]), hlef h1⟩, fun h1 h2 => ?_⟩
  · refine h.lef v ?_ hb
    rcases Nat.lt_or_ge v k with h5 | h5
    · exact h5
    · rw [show v = k by omega, h1] at hb; cases hb
  · have hql : (queue ++ [(k : Int)]).length = queue.length + 1 := by simp
    have hqs : ∀ j, j < queue.length + 1 → gi (queue ++ [(k : Int)]) j = if j = queue.length then (k : Int) else gi queue j := fun j hj => by
      split
      · rename_i e; rw [e]; unfold gi; rw [List.getD_eq_getElem?_getD, List.getElem?_append_right (Nat.le_refl _)]; simp
      · unfold gi; rw [List.getD_eq_getElem?_getD, List.getElem?_append_left (by omega), List.getD_eq_getElem?_getD]
    refine ⟨by rw [List.length_set]; exact h.lo, by rw [List.length_set]; exact h.ll, by rw [hql]; have := h.lq; omega, fun i hi => ?_, fun i j hij hj => ?_, fun v hv => ?_, fun v hv => ?_, hlef h1⟩
    · rw [hql] at hi
      rw [hqs i hi]
      split
      · omega
      · exact hq2 i (by omega)
    · rw [hql] at hj
      rw [hqs i (by omega), hqs j hj, if_neg (by omega)]
      split
      · have := h.qrg i (by omega); omega
      · exact h.qnd i j hij (by omega)
    · rw [gb_setB hlo, hql]
      constructor
      · intro hb
        split at hb
        · rename_i e; exact ⟨queue.length, by omega, by rw [hqs _ (by omega), if_pos rfl, e]⟩
        · obtain ⟨i, hi, e⟩ := (h.qout v hv).1 hb
          exact ⟨i, by omega, by rw [hqs i (by omega), if_neg (by omega)]; exact e⟩
      · rintro ⟨i, hi, e⟩
        rw [hqs i hi] at e
        split at e
        · rw [if_pos (by omega)]
        · split
          · rfl
          · exact (h.qout v hv).2 ⟨i, by omega, e⟩
    · rw [gb_setB hlo]
      split
      · rename_i e; rw [e, h1, h2, decide_eq_true (by omega)]; rfl
      · rename_i e
        rw [h.outs v hv]
        have : decide (v < k) = decide (v < k + 1) := decide_eq_decide.2 (by omega)
        rw [this]
end
set_option maxRecDepth 20000 in
set_option maxHeartbeats 8000000 in
theorem l7Attract_fn (x : L7) (inn : List Bool) (hx : x.Ok inn.length) (who : Int) (goal : List Bool) (hg9 : goal.length = inn.length) : Fn Try.prog tyT 162 [.agg (dL7 x), .c (.lst 4 (dB inn)), .c (.int .i64 who), .c (.lst 4 (dB goal))] [.c (.lst 4 (dB (attB x inn.length inn who goal)))] := by
  have hn1 := hx.hn
  have hn2 := hx.ho
  have hn3 := hx.hp
  have hn4 := hx.hx
  have hn5 := hx.hv
  have hn6 := hx.hk
  have hDg := fun v hv => l7Degree_fn x inn.length hx inn rfl v hv
  have hEd := fun v u hv => l7Edge_fn x inn.length hx v u hv
  have hatl := attB_len x inn.length inn who goal
  generalize hR : attB x inn.length inn who goal = R at hatl ⊢
  unfold dL7 at hDg hEd ⊢
  refine Fn_of (fn := Try.f162) (ts := [8]) Try.func162 (by kernel_rfl) rfl rfl (by rw [Try.ntmps162]; exact Nat.le_of_ble_eq_true rfl) rfl (by simp only [szA, List.mem_cons, List.not_mem_nil, or_false, forall_eq_or_imp, forall_eq, VT.cells, szL]; try decide) ?_
  rw [Try.ntmps162]
  simp only [push_cast, ↓brB_true, ↓brB_false, ↓reduceIte, zA, zB, zC, zD, zE, zF, zG, zH, zI, reduceCtorEq]
  refine awp_seq' fun K hK => ?_
  refine awp_region tyOk tyPos [] rfl ?_
  all_goals simp only [push_cast, ↓brB_true, ↓brB_false, ↓reduceIte, zA, zB, zC, zD, zE, zF, zG, zH, zI, reduceCtorEq]
  all_goals repeat' (first | (apply brB_mk <;> (intro hg; (try simp only [push_cast] at hg))) | apply And.intro | (intro hg; (try simp only [push_cast] at hg)))
  all_goals first | exact gA | (exact getE_dII (by omega)) | skip
  all_goals first | (refine hK _ ?_; clear hK K) | (simp only [push_cast]; done)
  refine awp_seq' fun K hK => ?_
  refine awp_region tyOk tyPos [] rfl ?_
  all_goals simp only [push_cast, ↓brB_true, ↓brB_false, ↓reduceIte, zA, zB, zC, zD, zE, zF, zG, zH, zI, reduceCtorEq]
  all_goals repeat' (first | (apply brB_mk <;> (intro hg; (try simp only [push_cast] at hg))) | apply And.intro | (intro hg; (try simp only [push_cast] at hg)))
  all_goals first | exact gA | (exact getE_dII (by omega)) | skip
  all_goals first | (refine hK _ ?_; clear hK K) | (simp only [push_cast]; done)
  refine awp_seq' fun K hK => ?_
  refine awp_region tyOk tyPos [] rfl ?_
  all_goals simp only [push_cast, ↓brB_true, ↓brB_false, ↓reduceIte, zA, zB, zC, zD, zE, zF, zG, zH, zI, reduceCtorEq]
  all_goals repeat' (first | (apply brB_mk <;> (intro hg; (try simp only [push_cast] at hg))) | apply And.intro | (intro hg; (try simp only [push_cast] at hg)))
  all_goals first | exact gA | (exact getE_dII (by omega)) | skip
  all_goals first | (refine hK _ ?_; clear hK K) | (simp only [push_cast]; done)
  refine awp_seq' fun K hK => ?_
  refine awp_region tyOk tyPos [] rfl ?_
  all_goals simp only [push_cast, ↓brB_true, ↓brB_false, ↓reduceIte, zA, zB, zC, zD, zE, zF, zG, zH, zI, reduceCtorEq]
  all_goals repeat' (first | (apply brB_mk <;> (intro hg; (try simp only [push_cast] at hg))) | apply And.intro | (intro hg; (try simp only [push_cast] at hg)))
  all_goals first | exact gA | (exact getE_dII (by omega)) | skip
  all_goals first | (refine hK _ ?_; clear hK K) | (simp only [push_cast]; done)
  refine awp_seq' fun K1 hK1 => ?_
  refine awp_seq' fun K hK => ?_
  refine awp_region tyOk tyPos [] rfl ?_
  all_goals simp only [push_cast, ↓brB_true, ↓brB_false, ↓reduceIte, zA, zB, zC, zD, zE, zF, zG, zH, zI, reduceCtorEq]
  all_goals repeat' (first | (apply brB_mk <;> (intro hg; (try simp only [push_cast] at hg))) | apply And.intro | (intro hg; (try simp only [push_cast] at hg)))
  all_goals first | exact gA | (exact getE_dII (by omega)) | skip
  all_goals first | (refine hK _ ?_; clear hK K) | (simp only [push_cast]; done)
  refine awp_block ?_
  refine awp_loopU [11,12,24,25,26,27,28,29,30,31,32,33,34,35,36,37,38,39,40,41,42,43,44,45,46,47,48,49,50,51,52,53,54,55,56,57] [144,160,176] (fun (p : Nat × List Bool × List Int × List Int) => [(12, .int .i64 p.1), (9, .sl 144 [] 0 inn.length 4), (10, .sl 160 [] 0 inn.length 2), (11, .sl 176 [] 0 p.2.2.2.length 2)]) (fun p => []) (fun p => [(144, ⟨.ex, 4, dB p.2.1, none⟩), (160, ⟨.ex, 2, dI p.2.2.1, none⟩), (176, ⟨.ex, 2, dI p.2.2.2, none⟩)]) (fun p => p.1 ≤ inn.length ∧ At0 x inn.length inn goal p.1 p.2.1 p.2.2.1 p.2.2.2) (fun p => inn.length - p.1) (0, List.replicate inn.length false, List.replicate inn.length 0, []) ?_ ⟨by omega, At0.start inn.length inn goal⟩ ?_
  ·
    rw [show dI ([] : List Int) = [] from rfl]
    skip
    refine cov_of rfl ?_ ?_ ?_ <;> simp only [covS, covL, push_cast, ↓brB_true, ↓brB_false, ↓reduceIte, zA, zB, zC, zD, zE, zF, zG, zH, zI, reduceCtorEq]
  · rintro ⟨v, out, left, queue⟩ ⟨hv, h0⟩ KL0 hL0
    dsimp only at hv h0
    simp only [push_cast, ↓brB_true, ↓brB_false, ↓reduceIte, zA, zB, zC, zD, zE, zF, zG, zH, zI, reduceCtorEq]
    refine awp_seq' fun K2 hK2 => ?_
    refine awp_seq' fun K hK => ?_
    refine awp_region tyOk tyPos [] rfl ?_
    all_goals simp only [push_cast, ↓brB_true, ↓brB_false, ↓reduceIte, zA, zB, zC, zD, zE, zF, zG, zH, zI, reduceCtorEq]
    all_goals repeat' (first | (apply brB_mk <;> (intro hg; (try simp only [push_cast] at hg))) | apply And.intro | (intro hg; (try simp only [push_cast] at hg)))
    all_goals first | exact gA | (exact getE_dII (by omega)) | skip
    all_goals first | (refine hK _ ?_; clear hK K) | (simp only [push_cast]; done)
    refine awp_cond rfl (fun hc => ?_) (fun hc => ?_) <;> (try simp only [push_cast] at hc)
    ·
      refine awp_skip ?_
      (try simp only [AThen, ABlk, reduceIte, zF]); refine hK2 _ ?_
      refine awp_seq' fun K3 hK3 => ?_
      refine awp_block ?_
      refine awp_seq' fun K4 hK4 => ?_
      have hl0 := h0.lo
      have hl1 := h0.ll
      have hl2 := h0.lq
      have hnx := At0.next h0 (by omega)
      refine awp_seq' fun K hK => ?_
      refine awp_region tyOk tyPos [] rfl ?_
      all_goals simp only [push_cast, ↓brB_true, ↓brB_false, ↓reduceIte, zA, zB, zC, zD, zE, zF, zG, zH, zI, reduceCtorEq]
      all_goals repeat' (first | (apply brB_mk <;> (intro hg; (try simp only [push_cast] at hg))) | apply And.intro | (intro hg; (try simp only [push_cast] at hg)))
      all_goals first | exact gA | (exact getE_dII (by omega)) | skip
      all_goals first | (refine hK _ ?_; clear hK K) | (simp only [push_cast]; done)
      refine awp_cond rfl (fun hc => ?_) (fun hc => ?_) <;> (try simp only [push_cast] at hc)
      ·
        refine awp_region tyOk tyPos [] rfl ?_
        all_goals refine aops_cut 6 fun K9 hK9 => ?_
        all_goals simp only [push_cast, ↓brB_true, ↓brB_false, ↓reduceIte, zA, zB, zC, zD, zE, zF, zG, zH, zI, reduceCtorEq]
        all_goals repeat' (first | (apply brB_mk <;> (intro hg; (try simp only [push_cast] at hg))) | (refine ⟨_, hDg v (by omega), ?_⟩; simp only [push_cast, ↓brB_true, ↓brB_false, ↓reduceIte, zA, zB, zC, zD, zE, zF, zG, zH, zI, reduceCtorEq]) | apply And.intro | (intro hg; (try simp only [push_cast] at hg)))
        all_goals first | exact gA | (exact getE_dII (by omega)) | skip
        all_goals first | (refine hK9 _ ?_; clear hK9 K9) | (simp only [push_cast]; done)
        all_goals simp only [push_cast, ↓brB_true, ↓brB_false, ↓reduceIte, zA, zB, zC, zD, zE, zF, zG, zH, zI, reduceCtorEq]
        all_goals repeat' (first | (apply brB_mk <;> (intro hg; (try simp only [push_cast] at hg))) | (refine ⟨_, hDg v (by omega), ?_⟩; simp only [push_cast, ↓brB_true, ↓brB_false, ↓reduceIte, zA, zB, zC, zD, zE, zF, zG, zH, zI, reduceCtorEq]) | apply And.intro | (intro hg; (try simp only [push_cast] at hg)))
        all_goals first | exact gA | (exact getE_dII (by omega)) | skip
        (try simp only [AThen, ABlk, reduceIte, zF]); refine hK4 _ ?_
        refine awp_seq' fun K hK => ?_
        refine awp_regionN false tyOk tyPos ?_ rfl ?_
        · kernel_rfl
        all_goals simp only [push_cast, ↓brB_true, ↓brB_false, ↓reduceIte, zA, zB, zC, zD, zE, zF, zG, zH, zI, reduceCtorEq]
        all_goals repeat' (first | (apply brB_mk <;> (intro hg; (try simp only [push_cast] at hg))) | apply And.intro | (intro hg; (try simp only [push_cast] at hg)))
        all_goals first | exact gA | (exact bool_cl (b := gb inn v) (by with_reducible assumption) (by with_reducible assumption)) | (exact getE_dII (by omega)) | skip
        all_goals first | (refine hK _ ?_; clear hK K) | (simp only [push_cast]; done)
        all_goals refine awp_cond rfl (fun hc => ?_) (fun hc => ?_)
        all_goals (first | (cases hc; done) | skip)
        all_goals (try simp only [push_cast] at hc)
        all_goals first
          | (
              refine awp_skip ?_
              (try simp only [AThen, ABlk, reduceIte, zF]); refine hK3 _ ?_
              refine awp_region tyOk tyPos [] rfl ?_
              all_goals simp only [push_cast, ↓brB_true, ↓brB_false, ↓reduceIte, zA, zB, zC, zD, zE, zF, zG, zH, zI, reduceCtorEq]
              all_goals repeat' (first | (apply brB_mk <;> (intro hg; (try simp only [push_cast] at hg))) | apply And.intro | (intro hg; (try simp only [push_cast] at hg)))
              all_goals first | exact gA | (exact getE_dII (by omega)) | skip
              refine hL0 _ ⟨(v + 1, out, left.set v (degL x inn v), queue), ⟨by dsimp only; omega, hnx.2.1 (by with_reducible assumption) (by with_reducible assumption)⟩, by dsimp only; omega, ?_⟩
              skip
              refine cov_of rfl ?_ ?_ ?_ <;> simp only [covS, covL, push_cast, ↓brB_true, ↓brB_false, ↓reduceIte, zA, zB, zC, zD, zE, zF, zG, zH, zI, reduceCtorEq]
              done)
          | (
              refine awp_seq' fun K hK => ?_
              refine awp_region tyOk tyPos [] rfl ?_
              all_goals simp only [push_cast, ↓brB_true, ↓brB_false, ↓reduceIte, zA, zB, zC, zD, zE, zF, zG, zH, zI, reduceCtorEq]
              all_goals repeat' (first | (apply brB_mk <;> (intro hg; (try simp only [push_cast] at hg))) | apply And.intro | (intro hg; (try simp only [push_cast] at hg)))
              all_goals first | exact gA | (exact getE_dII (by omega)) | skip
              all_goals first | (refine hK _ ?_; clear hK K) | (simp only [push_cast]; done)
              refine awp_region tyOk tyPos [] rfl ?_
              all_goals simp only [push_cast, ↓brB_true, ↓brB_false, ↓reduceIte, zA, zB, zC, zD, zE, zF, zG, zH, zI, reduceCtorEq]
              all_goals repeat' (first | (apply brB_mk <;> (intro hg; (try simp only [push_cast] at hg))) | apply And.intro | (intro hg; (try simp only [push_cast] at hg)))
              all_goals first | exact gA | (exact getE_dII (by omega)) | skip
              (try simp only [AThen, ABlk, reduceIte, zF]); refine hK3 _ ?_
              refine awp_region tyOk tyPos [] rfl ?_
              all_goals simp only [push_cast, ↓brB_true, ↓brB_false, ↓reduceIte, zA, zB, zC, zD, zE, zF, zG, zH, zI, reduceCtorEq]
              all_goals repeat' (first | (apply brB_mk <;> (intro hg; (try simp only [push_cast] at hg))) | apply And.intro | (intro hg; (try simp only [push_cast] at hg)))
              all_goals first | exact gA | (exact getE_dII (by omega)) | skip
              refine hL0 _ ⟨(v + 1, out.set v true, left.set v (degL x inn v), queue ++ [(v : Int)]), ⟨by dsimp only; omega, hnx.2.2 (by with_reducible assumption) (by with_reducible assumption)⟩, by dsimp only; omega, ?_⟩
              (try rw [List.take_of_length_le (l := queue) (by omega)])
              simp only [List.length_append, List.length_cons, List.length_nil, Nat.zero_add]
              refine cov_of rfl ?_ ?_ ?_ <;> simp only [covS, covL, push_cast, ↓brB_true, ↓brB_false, ↓reduceIte, zA, zB, zC, zD, zE, zF, zG, zH, zI, reduceCtorEq]
              done)
      ·
        refine awp_skip ?_
        (try simp only [AThen, ABlk, reduceIte, zF]); refine hK4 _ ?_
        refine awp_seq' fun K hK => ?_
        refine awp_regionN false tyOk tyPos ?_ rfl ?_
        · kernel_rfl
        all_goals simp only [push_cast, ↓brB_true, ↓brB_false, ↓reduceIte, zA, zB, zC, zD, zE, zF, zG, zH, zI, reduceCtorEq]
        all_goals repeat' (first | (apply brB_mk <;> (intro hg; (try simp only [push_cast] at hg))) | apply And.intro | (intro hg; (try simp only [push_cast] at hg)))
        all_goals first | exact gA | (exact bool_cl (b := gb inn v) (by with_reducible assumption) (by with_reducible assumption)) | (exact getE_dII (by omega)) | skip
        all_goals first | (refine hK _ ?_; clear hK K) | (simp only [push_cast]; done)
        all_goals refine awp_cond rfl (fun hc => ?_) (fun hc => ?_)
        all_goals (first | (cases hc; done) | skip)
        all_goals (try simp only [push_cast] at hc)
        all_goals first
          | (
              refine awp_skip ?_
              (try simp only [AThen, ABlk, reduceIte, zF]); refine hK3 _ ?_
              refine awp_region tyOk tyPos [] rfl ?_
              all_goals simp only [push_cast, ↓brB_true, ↓brB_false, ↓reduceIte, zA, zB, zC, zD, zE, zF, zG, zH, zI, reduceCtorEq]
              all_goals repeat' (first | (apply brB_mk <;> (intro hg; (try simp only [push_cast] at hg))) | apply And.intro | (intro hg; (try simp only [push_cast] at hg)))
              all_goals first | exact gA | (exact getE_dII (by omega)) | skip
              refine hL0 _ ⟨(v + 1, out, left, queue), ⟨by dsimp only; omega, hnx.1 (by with_reducible assumption)⟩, by dsimp only; omega, ?_⟩
              skip
              refine cov_of rfl ?_ ?_ ?_ <;> simp only [covS, covL, push_cast, ↓brB_true, ↓brB_false, ↓reduceIte, zA, zB, zC, zD, zE, zF, zG, zH, zI, reduceCtorEq]
              done)
          | (
              refine awp_seq' fun K hK => ?_
              refine awp_region tyOk tyPos [] rfl ?_
              all_goals simp only [push_cast, ↓brB_true, ↓brB_false, ↓reduceIte, zA, zB, zC, zD, zE, zF, zG, zH, zI, reduceCtorEq]
              all_goals repeat' (first | (apply brB_mk <;> (intro hg; (try simp only [push_cast] at hg))) | apply And.intro | (intro hg; (try simp only [push_cast] at hg)))
              all_goals first | exact gA | (exact getE_dII (by omega)) | skip
              all_goals first | (refine hK _ ?_; clear hK K) | (simp only [push_cast]; done)
              refine awp_region tyOk tyPos [] rfl ?_
              all_goals simp only [push_cast, ↓brB_true, ↓brB_false, ↓reduceIte, zA, zB, zC, zD, zE, zF, zG, zH, zI, reduceCtorEq]
              all_goals repeat' (first | (apply brB_mk <;> (intro hg; (try simp only [push_cast] at hg))) | apply And.intro | (intro hg; (try simp only [push_cast] at hg)))
              all_goals first | exact gA | (exact getE_dII (by omega)) | skip
              (try simp only [AThen, ABlk, reduceIte, zF]); refine hK3 _ ?_
              refine awp_region tyOk tyPos [] rfl ?_
              all_goals simp only [push_cast, ↓brB_true, ↓brB_false, ↓reduceIte, zA, zB, zC, zD, zE, zF, zG, zH, zI, reduceCtorEq]
              all_goals repeat' (first | (apply brB_mk <;> (intro hg; (try simp only [push_cast] at hg))) | apply And.intro | (intro hg; (try simp only [push_cast] at hg)))
              all_goals first | exact gA | (exact getE_dII (by omega)) | skip
              refine hL0 _ ⟨(v + 1, out, left, queue), ⟨by dsimp only; omega, hnx.1 (by with_reducible assumption)⟩, by dsimp only; omega, ?_⟩
              skip
              refine cov_of rfl ?_ ?_ ?_ <;> simp only [covS, covL, push_cast, ↓brB_true, ↓brB_false, ↓reduceIte, zA, zB, zC, zD, zE, zF, zG, zH, zI, reduceCtorEq]
              done)
    ·
      refine awp_exit ?_
      have hkk : v = inn.length := by omega
      subst hkk
      have hA0 := h0.inv (who := who) hx
      (try simp only [AThen, ABlk, reduceIte, zF]); refine hK1 _ ?_
      refine awp_seq' fun K5 hK5 => ?_
      refine awp_seq' fun K hK => ?_
      refine awp_region tyOk tyPos [] rfl ?_
      all_goals simp only [push_cast, ↓brB_true, ↓brB_false, ↓reduceIte, zA, zB, zC, zD, zE, zF, zG, zH, zI, reduceCtorEq]
      all_goals repeat' (first | (apply brB_mk <;> (intro hg; (try simp only [push_cast] at hg))) | apply And.intro | (intro hg; (try simp only [push_cast] at hg)))
      all_goals first | exact gA | (exact getE_dII (by omega)) | skip
      all_goals first | (refine hK _ ?_; clear hK K) | (simp only [push_cast]; done)
      refine awp_block ?_
      refine awp_loopU [11,13,14,15,16,45,58,59,60,61,62,63,64,65,66,67,68,69,70,71,72,73,74,75,76,77,78,79,80,81,82,83,84,85,86,87,88,89,90,91,92,93,94,95,96,97,98,99,100,101,102,103,104,105,106,107,108,109,110,111,112,113,114,115,116,117,118,119,120,121,122,123,124,125,126,127,128,129,130] [144,160,176] (fun (p : Nat × List Bool × List Int × List Int) => [(13, .int .i64 p.1), (9, .sl 144 [] 0 inn.length 4), (10, .sl 160 [] 0 inn.length 2), (11, .sl 176 [] 0 p.2.2.2.length 2)]) (fun p => []) (fun p => [(144, ⟨.ex, 4, dB p.2.1, none⟩), (160, ⟨.ex, 2, dI p.2.2.1, none⟩), (176, ⟨.ex, 2, dI p.2.2.2, none⟩)]) (fun p => p.1 ≤ p.2.2.2.length ∧ AtI x inn.length inn who goal p.2.1 p.2.2.1 p.2.2.2 (fun _ u => hasB (p.2.2.2.take p.1) u)) (fun p => inn.length - p.1) (0, out, left, queue) ?_ ⟨by dsimp only; omega, hA0⟩ ?_
      ·
        refine cov_of rfl ?_ ?_ ?_ <;> simp only [covS, covL, push_cast, ↓brB_true, ↓brB_false, ↓reduceIte, zA, zB, zC, zD, zE, zF, zG, zH, zI, reduceCtorEq]
      · rintro ⟨i, out, left, queue⟩ ⟨hv, hA⟩ KL1 hL1
        dsimp only at hv hA
        simp only [push_cast, ↓brB_true, ↓brB_false, ↓reduceIte, zA, zB, zC, zD, zE, zF, zG, zH, zI, reduceCtorEq]
        refine awp_seq' fun K6 hK6 => ?_
        have hl0 := hA.lo
        have hl1 := hA.ll
        have hql := hA.qle
        refine awp_seq' fun K hK => ?_
        refine awp_region tyOk tyPos [] rfl ?_
        all_goals simp only [push_cast, ↓brB_true, ↓brB_false, ↓reduceIte, zA, zB, zC, zD, zE, zF, zG, zH, zI, reduceCtorEq]
        all_goals repeat' (first | (apply brB_mk <;> (intro hg; (try simp only [push_cast] at hg))) | apply And.intro | (intro hg; (try simp only [push_cast] at hg)))
        all_goals first | exact gA | (exact getE_dII (by omega)) | skip
        all_goals first | (refine hK _ ?_; clear hK K) | (simp only [push_cast]; done)
        refine awp_cond rfl (fun hc => ?_) (fun hc => ?_) <;> (try simp only [push_cast] at hc)
        ·
          refine awp_skip ?_
          (try simp only [AThen, ABlk, reduceIte, zF]); refine hK6 _ ?_
          refine awp_seq' fun K7 hK7 => ?_
          refine awp_block ?_
          have hqi := hA.qin (i := i) (by omega)
          skip
          refine awp_seq' fun K hK => ?_
          refine awp_region tyOk tyPos [] rfl ?_
          all_goals simp only [push_cast, ↓brB_true, ↓brB_false, ↓reduceIte, zA, zB, zC, zD, zE, zF, zG, zH, zI, reduceCtorEq]
          all_goals repeat' (first | (apply brB_mk <;> (intro hg; (try simp only [push_cast] at hg))) | apply And.intro | (intro hg; (try simp only [push_cast] at hg)))
          all_goals first | exact gA | (exact getE_dII (by omega)) | skip
          all_goals first | (refine hK _ ?_; clear hK K) | (simp only [push_cast]; done)
          refine awp_seq' fun K hK => ?_
          refine awp_region tyOk tyPos [] rfl ?_
          all_goals simp only [push_cast, ↓brB_true, ↓brB_false, ↓reduceIte, zA, zB, zC, zD, zE, zF, zG, zH, zI, reduceCtorEq]
          all_goals repeat' (first | (apply brB_mk <;> (intro hg; (try simp only [push_cast] at hg))) | apply And.intro | (intro hg; (try simp only [push_cast] at hg)))
          all_goals first | exact gA | (exact getE_dII (by omega)) | skip
          all_goals first | (refine hK _ ?_; clear hK K) | (simp only [push_cast]; done)
          refine awp_block ?_
          obtain ⟨qi, hqi0⟩ : ∃ qi, queue.take i = qi := ⟨_, rfl⟩
          obtain ⟨u0, hu0⟩ : ∃ u0, gi queue i = u0 := ⟨_, rfl⟩
          rw [hu0]
          rw [hu0] at hqi
          have hAb := PK_begin hA
          rw [hu0, hqi0] at hAb
          refine awp_loopU [11,15,16,45,59,64,66,68,69,70,71,72,73,74,75,76,77,78,79,80,81,82,83,84,85,86,87,88,89,90,91,92,93,94,95,96,97,98,99,100,101,102,103,104,105,106,107,108,109,110,111,112,113,114,115,116,117,118,119,120,121,122,123,124,125,126,127,128,129,130] [144,160,176] (fun (p : Nat × List Bool × List Int × List Int) => [(15, .int .i64 p.1), (9, .sl 144 [] 0 inn.length 4), (10, .sl 160 [] 0 inn.length 2), (11, .sl 176 [] 0 p.2.2.2.length 2)]) (fun p => []) (fun p => [(144, ⟨.ex, 4, dB p.2.1, none⟩), (160, ⟨.ex, 2, dI p.2.2.1, none⟩), (176, ⟨.ex, 2, dI p.2.2.2, none⟩)]) (fun p => p.1 ≤ (gl x.prev u0.toNat).length ∧ AtI x inn.length inn who goal p.2.1 p.2.2.1 p.2.2.2 (PK x qi u0 p.1) ∧ p.2.2.2.take i = qi ∧ gi p.2.2.2 i = u0 ∧ i < p.2.2.2.length) (fun p => (gl x.prev u0.toNat).length - p.1) (0, out, left, queue) ?_ ⟨by dsimp only; omega, hAb, hqi0, hu0, by dsimp only; omega⟩ ?_
          ·
            refine cov_of rfl ?_ ?_ ?_ <;> simp only [covS, covL, push_cast, ↓brB_true, ↓brB_false, ↓reduceIte, zA, zB, zC, zD, zE, zF, zG, zH, zI, reduceCtorEq]
          · rintro ⟨k, out, left, queue⟩ ⟨hk, hA2, hq2, hu2, hil⟩ KL2 hL2
            dsimp only at hk hA2 hq2 hu2 hil
            simp only [push_cast, ↓brB_true, ↓brB_false, ↓reduceIte, zA, zB, zC, zD, zE, zF, zG, zH, zI, reduceCtorEq]
            refine awp_seq' fun K8 hK8 => ?_
            have hl0 := hA2.lo
            have hl1 := hA2.ll
            have hql := hA2.qle
            have hpl := hx.dpv u0.toNat (by omega)
            refine awp_seq' fun K hK => ?_
            refine awp_region tyOk tyPos [] rfl ?_
            all_goals simp only [push_cast, ↓brB_true, ↓brB_false, ↓reduceIte, zA, zB, zC, zD, zE, zF, zG, zH, zI, reduceCtorEq]
            all_goals repeat' (first | (apply brB_mk <;> (intro hg; (try simp only [push_cast] at hg))) | apply And.intro | (intro hg; (try simp only [push_cast] at hg)))
            all_goals first | exact gA | (exact getE_dII (by omega)) | skip
            all_goals first | (refine hK _ ?_; clear hK K) | (simp only [push_cast]; done)
            refine awp_cond rfl (fun hc => ?_) (fun hc => ?_) <;> (try simp only [push_cast] at hc)
            ·
              refine awp_skip ?_
              (try simp only [AThen, ABlk, reduceIte, zF]); refine hK8 _ ?_
              refine awp_seq' fun K9 hK9 => ?_
              refine awp_block ?_
              refine awp_seq' fun K hK => ?_
              refine awp_region tyOk tyPos [] rfl ?_
              all_goals simp only [push_cast, ↓brB_true, ↓brB_false, ↓reduceIte, zA, zB, zC, zD, zE, zF, zG, zH, zI, reduceCtorEq]
              all_goals repeat' (first | (apply brB_mk <;> (intro hg; (try simp only [push_cast] at hg))) | apply And.intro | (intro hg; (try simp only [push_cast] at hg)))
              all_goals first | exact gA | (exact getE_dII (by omega)) | skip
              all_goals first | (refine hK _ ?_; clear hK K) | (simp only [push_cast]; done)
              refine awp_seq' fun K10 hK10 => ?_
              have hp1 := hx.pin u0.toNat (by omega) k (by omega)
              have hqi2 := hA2.qin (i := i) hil
              rw [hu2] at hqi2
              have hps := fun v u => PK_s (x := x) (qi := qi) (u0 := u0) (k := k) (by omega) (by omega) v u
              refine awp_seq' fun K hK => ?_
              refine awp_regionN false tyOk tyPos ?_ rfl ?_
              · kernel_rfl
              all_goals refine seqE_cut 16 fun K9 hK9 => ?_
              all_goals simp only [push_cast, ↓brB_true, ↓brB_false, ↓reduceIte, zA, zB, zC, zD, zE, zF, zG, zH, zI, reduceCtorEq]
              all_goals repeat' (first | (apply brB_mk <;> (intro hg; (try simp only [push_cast] at hg))) | (refine ⟨_, hEd (gi (gl x.prev u0.toNat) k) u0 (by omega), ?_⟩; simp only [push_cast, ↓brB_true, ↓brB_false, ↓reduceIte, zA, zB, zC, zD, zE, zF, zG, zH, zI, reduceCtorEq]) | apply And.intro | (intro hg; (try simp only [push_cast] at hg)))
              all_goals first | exact gA | (exact getE_dII (by omega)) | skip
              all_goals first | (refine hK9 _ ?_; clear hK9 K9) | (simp only [push_cast]; done)
              all_goals simp only [push_cast, ↓brB_true, ↓brB_false, ↓reduceIte, zA, zB, zC, zD, zE, zF, zG, zH, zI, reduceCtorEq]
              all_goals repeat' (first | (apply brB_mk <;> (intro hg; (try simp only [push_cast] at hg))) | (refine ⟨_, hEd (gi (gl x.prev u0.toNat) k) u0 (by omega), ?_⟩; simp only [push_cast, ↓brB_true, ↓brB_false, ↓reduceIte, zA, zB, zC, zD, zE, zF, zG, zH, zI, reduceCtorEq]) | apply And.intro | (intro hg; (try simp only [push_cast] at hg)))
              all_goals first | exact gA | (exact getE_dII (by omega)) | skip
              all_goals first | (refine hK _ ?_; clear hK K) | (simp only [push_cast]; done)
              all_goals refine awp_cond rfl (fun hc => ?_) (fun hc => ?_)
              all_goals (first | (cases hc; done) | skip)
              all_goals (try simp only [push_cast] at hc)
              all_goals first
                | (
                    refine awp_skip ?_
                    (try simp only [AThen, ABlk, reduceIte, zF]); refine hK10 _ ?_
                    have hlb : 0 ≤ gi left (gi (gl x.prev u0.toNat) k).toNat ∧ gi left (gi (gl x.prev u0.toNat) k).toNat ≤ 256 := by rw [hA2.cnt (gi (gl x.prev u0.toNat) k).toNat (by omega) (by with_reducible assumption) (by with_reducible assumption)]; have h5 := degP_nn x inn (gi (gl x.prev u0.toNat) k).toNat (PK x qi u0 k (gi (gl x.prev u0.toNat) k).toNat) (gl x.next (gi (gl x.prev u0.toNat) k).toNat).length; have h6 := hx.deg (gi (gl x.prev u0.toNat) k).toNat (by omega); omega
                    have hset : gi (left.set (gi (gl x.prev u0.toNat) k).toNat (gi left (gi (gl x.prev u0.toNat) k).toNat - 1)) (gi (gl x.prev u0.toNat) k).toNat = gi left (gi (gl x.prev u0.toNat) k).toNat - 1 := by rw [gi_setI (by omega), if_pos rfl]
                    have hst := AtI.step hx hA2 (v0 := (gi (gl x.prev u0.toNat) k).toNat) (by omega) (u0 := u0) hqi2.1 hqi2.2.1 hqi2.2.2 (by with_reducible assumption) (by with_reducible assumption) (by rw [Int.toNat_of_nonneg hp1.1.1]; with_reducible assumption) (by obtain ⟨j9, a9, b9⟩ := hp1.2; exact ⟨j9, a9, by rw [b9]; omega⟩) (by have h8 := PK_new hx hA2 hil (k := k) (by rw [hu2]; omega); rw [hu2, hq2] at h8; exact h8) hps
                    have hta : ∀ y : Int, (queue ++ [y]).take i = qi := fun y => by rw [List.take_append_of_le_length (by omega)]; exact hq2
                    have htg : ∀ y : Int, gi (queue ++ [y]) i = u0 := fun y => by rw [gi_app hil]; exact hu2
                    refine awp_seq' fun K hK => ?_
                    refine awp_region tyOk tyPos [] rfl ?_
                    all_goals simp only [push_cast, ↓brB_true, ↓brB_false, ↓reduceIte, zA, zB, zC, zD, zE, zF, zG, zH, zI, reduceCtorEq]
                    all_goals repeat' (first | (apply brB_mk <;> (intro hg; (try simp only [push_cast] at hg))) | apply And.intro | (intro hg; (try simp only [push_cast] at hg)))
                    all_goals first | exact gA | (exact getE_dII (by omega)) | skip
                    all_goals first | (refine hK _ ?_; clear hK K) | (simp only [push_cast]; done)
                    refine awp_seq' fun K hK => ?_
                    refine awp_regionN false tyOk tyPos ?_ rfl ?_
                    · kernel_rfl
                    all_goals simp only [push_cast, ↓brB_true, ↓brB_false, ↓reduceIte, zA, zB, zC, zD, zE, zF, zG, zH, zI, reduceCtorEq]
                    all_goals repeat' (first | (apply brB_mk <;> (intro hg; (try simp only [push_cast] at hg))) | apply And.intro | (intro hg; (try simp only [push_cast] at hg)))
                    all_goals first | exact gA | (rw [List.length_set]; omega) | (exact getE_dII (by omega)) | skip
                    all_goals first | (refine hK _ ?_; clear hK K) | (simp only [push_cast]; done)
                    all_goals refine awp_cond rfl (fun hc => ?_) (fun hc => ?_)
                    all_goals (first | (cases hc; done) | skip)
                    all_goals (try simp only [push_cast] at hc)
                    all_goals first
                      | (
                          refine awp_skip ?_
                          (try simp only [AThen, ABlk, reduceIte, zF]); refine hK9 _ ?_
                          refine awp_region tyOk tyPos [] rfl ?_
                          all_goals simp only [push_cast, ↓brB_true, ↓brB_false, ↓reduceIte, zA, zB, zC, zD, zE, zF, zG, zH, zI, reduceCtorEq]
                          all_goals repeat' (first | (apply brB_mk <;> (intro hg; (try simp only [push_cast] at hg))) | apply And.intro | (intro hg; (try simp only [push_cast] at hg)))
                          all_goals first | exact gA | (exact getE_dII (by omega)) | skip
                          refine hL2 _ ⟨(k + 1, out, left.set (gi (gl x.prev u0.toNat) k).toNat (gi left (gi (gl x.prev u0.toNat) k).toNat - 1), queue), ⟨by dsimp only; omega, hst.1 (by omega), hq2, hu2, hil⟩, by dsimp only; omega, ?_⟩
                          skip
                          refine cov_of rfl ?_ ?_ ?_ <;> simp only [covS, covL, push_cast, ↓brB_true, ↓brB_false, ↓reduceIte, zA, zB, zC, zD, zE, zF, zG, zH, zI, reduceCtorEq]
                          done)
                      | (
                          refine awp_seq' fun K hK => ?_
                          refine awp_region tyOk tyPos [] rfl ?_
                          all_goals simp only [push_cast, ↓brB_true, ↓brB_false, ↓reduceIte, zA, zB, zC, zD, zE, zF, zG, zH, zI, reduceCtorEq]
                          all_goals repeat' (first | (apply brB_mk <;> (intro hg; (try simp only [push_cast] at hg))) | apply And.intro | (intro hg; (try simp only [push_cast] at hg)))
                          all_goals first | exact gA | (exact getE_dII (by omega)) | skip
                          all_goals first | (refine hK _ ?_; clear hK K) | (simp only [push_cast]; done)
                          refine awp_region tyOk tyPos [] rfl ?_
                          all_goals simp only [push_cast, ↓brB_true, ↓brB_false, ↓reduceIte, zA, zB, zC, zD, zE, zF, zG, zH, zI, reduceCtorEq]
                          all_goals repeat' (first | (apply brB_mk <;> (intro hg; (try simp only [push_cast] at hg))) | apply And.intro | (intro hg; (try simp only [push_cast] at hg)))
                          all_goals first | exact gA | (exact getE_dII (by omega)) | skip
                          (try simp only [AThen, ABlk, reduceIte, zF]); refine hK9 _ ?_
                          refine awp_region tyOk tyPos [] rfl ?_
                          all_goals simp only [push_cast, ↓brB_true, ↓brB_false, ↓reduceIte, zA, zB, zC, zD, zE, zF, zG, zH, zI, reduceCtorEq]
                          all_goals repeat' (first | (apply brB_mk <;> (intro hg; (try simp only [push_cast] at hg))) | apply And.intro | (intro hg; (try simp only [push_cast] at hg)))
                          all_goals first | exact gA | (exact getE_dII (by omega)) | skip
                          refine hL2 _ ⟨(k + 1, out.set (gi (gl x.prev u0.toNat) k).toNat true, left.set (gi (gl x.prev u0.toNat) k).toNat (gi left (gi (gl x.prev u0.toNat) k).toNat - 1), queue ++ [gi (gl x.prev u0.toNat) k]), ⟨by dsimp only; omega, (by have h8 := hst.2 (by omega); rw [Int.toNat_of_nonneg hp1.1.1] at h8; exact h8), hta _, htg _, by simp only [List.length_append]; omega⟩, by dsimp only; omega, ?_⟩
                          (try rw [List.take_of_length_le (l := queue) (by omega)])
                          simp only [List.length_append, List.length_cons, List.length_nil, Nat.zero_add]
                          refine cov_of rfl ?_ ?_ ?_ <;> simp only [covS, covL, push_cast, ↓brB_true, ↓brB_false, ↓reduceIte, zA, zB, zC, zD, zE, zF, zG, zH, zI, reduceCtorEq]
                          done)
                    done)
                | (
                    refine awp_exit ?_
                    (try simp only [AThen, ABlk, reduceIte, zF]); refine hK9 _ ?_
                    refine awp_region tyOk tyPos [] rfl ?_
                    all_goals simp only [push_cast, ↓brB_true, ↓brB_false, ↓reduceIte, zA, zB, zC, zD, zE, zF, zG, zH, zI, reduceCtorEq]
                    all_goals repeat' (first | (apply brB_mk <;> (intro hg; (try simp only [push_cast] at hg))) | apply And.intro | (intro hg; (try simp only [push_cast] at hg)))
                    all_goals first | exact gA | (exact getE_dII (by omega)) | skip
                    refine hL2 _ ⟨(k + 1, out, left, queue), ⟨by dsimp only; omega, hA2.skip (v0 := (gi (gl x.prev u0.toNat) k).toNat) (by omega) hqi2.2.1 (by first | exact .inl (by with_reducible assumption) | exact .inr (.inl (by with_reducible assumption)) | exact .inr (.inr (by rw [Int.toNat_of_nonneg hp1.1.1]; with_reducible assumption))) hps, hq2, hu2, hil⟩, by dsimp only; omega, ?_⟩
                    skip
                    refine cov_of rfl ?_ ?_ ?_ <;> simp only [covS, covL, push_cast, ↓brB_true, ↓brB_false, ↓reduceIte, zA, zB, zC, zD, zE, zF, zG, zH, zI, reduceCtorEq]
                    done)
            ·
              refine awp_exit ?_
              (try simp only [AThen, ABlk, reduceIte, zF]); refine hK7 _ ?_
              refine awp_region tyOk tyPos [] rfl ?_
              all_goals simp only [push_cast, ↓brB_true, ↓brB_false, ↓reduceIte, zA, zB, zC, zD, zE, zF, zG, zH, zI, reduceCtorEq]
              all_goals repeat' (first | (apply brB_mk <;> (intro hg; (try simp only [push_cast] at hg))) | apply And.intro | (intro hg; (try simp only [push_cast] at hg)))
              all_goals first | exact gA | (exact getE_dII (by omega)) | skip
              refine hL1 _ ⟨(i + 1, out, left, queue), ⟨by dsimp only; omega, PK_end hx hil hq2 hu2 (by omega) hA2⟩, by dsimp only; omega, ?_⟩
              refine cov_of rfl ?_ ?_ ?_ <;> simp only [covS, covL, push_cast, ↓brB_true, ↓brB_false, ↓reduceIte, zA, zB, zC, zD, zE, zF, zG, zH, zI, reduceCtorEq]
        ·
          refine awp_exit ?_
          have hie : i = queue.length := by omega
          subst hie
          have hfin := AtI.end' hx hA
          rw [hR] at hfin
          (try simp only [AThen, ABlk, reduceIte, zF]); refine hK5 _ ?_
          refine awp_seq' fun K hK => ?_
          refine awp_region tyOk tyPos [] rfl ?_
          all_goals simp only [push_cast, ↓brB_true, ↓brB_false, ↓reduceIte, zA, zB, zC, zD, zE, zF, zG, zH, zI, reduceCtorEq]
          all_goals repeat' (first | (apply brB_mk <;> (intro hg; (try simp only [push_cast] at hg))) | apply And.intro | (intro hg; (try simp only [push_cast] at hg)))
          all_goals first | exact gA | (exact getE_dII (by omega)) | skip
          all_goals first | (refine hK _ ?_; clear hK K) | (simp only [push_cast]; done)
          refine awp_ret ?_
          (try simp only [AThen, ABlk])
          refine ⟨Or.inl rfl, ?_⟩
          simp only [RetOk, push_cast, ↓brB_true, ↓brB_false, ↓reduceIte, zA, zB, zC, zD, zE, zF, zG, zH, zI, reduceCtorEq]
          rw [hfin]
          all_goals first | rfl | exact ⟨rfl, hatl⟩ | exact ⟨rfl, hatl.symm⟩ | exact hatl.symm | (simp; done)
end Go.Proofs.Ytdbecmmeifdafaa

namespace Go.Proofs.Ytdbecmmeifdafaa
open Nat renaming reduceMod → zA, reduceMul → zB, reduceDiv → zC, reduceAdd → zD, reduceSub → zE, reduceEqDiff → zF, reduceBEq → zG, reduceLT → zH, reduceLeDiff → zI
open Go.RowKit
set_option linter.unusedVariables false
set_option linter.unusedSimpArgs false

structure WSh (w : Wt) : Prop where
  ok : arenaB w.a = true
  n1 : 1 ≤ w.a.owner.length
  n2 : w.a.owner.length ≤ 24
  nl : w.a.next.length = w.a.owner.length
  cl : w.cost.length = w.a.owner.length
  row : ∀ v, v < w.a.owner.length → (gl w.cost v).length = (gl w.a.next v).length ∧ 1 ≤ (gl w.a.next v).length ∧ (gl w.a.next v).length ≤ 16
  bd : ∀ v, v < w.a.owner.length → ∀ j, j < (gl w.a.next v).length → -20000 ≤ gi (gl w.cost v) j ∧ gi (gl w.cost v) j ≤ 20000
  to : ∀ v, v < w.a.owner.length → ∀ j, j < (gl w.a.next v).length → 0 ≤ gi (gl w.a.next v) j ∧ gi (gl w.a.next v) j < w.a.owner.length
  own : ∀ v, v < w.a.owner.length → gi w.a.owner v = 0 ∨ gi w.a.owner v = 1
def worstI : Int → List Int → Int
  | m, [] => m
  | m, c :: r => worstI (if -c > m then -c else m) r
theorem worstI_app (m : Int) (a b : List Int) : worstI m (a ++ b) = worstI (worstI m a) b := by
  induction a generalizing m with
  | nil => rfl
  | cons x a ih => exact ih _
theorem worstI_take {m : Int} {r : List Int} {k : Nat} (h : k < r.length) : worstI m (r.take (k + 1)) = if -gi r k > worstI m (r.take k) then -gi r k else worstI m (r.take k) := by
  rw [List.take_add_one, gi_lt h, worstI_app]
  rfl
theorem mem_gi {xs : List Int} {x : Int} (h : x ∈ xs) : ∃ k, k < xs.length ∧ gi xs k = x := by
  obtain ⟨k, hk, rfl⟩ := List.getElem_of_mem h
  refine ⟨k, hk, ?_⟩
  unfold gi
  rw [List.getD_eq_getElem?_getD, List.getElem?_eq_getElem hk]
  rfl
theorem mem_gl {xs : List (List Int)} {x : List Int} (h : x ∈ xs) : ∃ k, k < xs.length ∧ gl xs k = x := by
  obtain ⟨k, hk, rfl⟩ := List.getElem_of_mem h
  refine ⟨k, hk, ?_⟩
  unfold gl
  rw [List.getD_eq_getElem?_getD, List.getElem?_eq_getElem hk]
  rfl
def need0 (w : Wt) (b : Int) (c : List Int) (v j : Nat) : Int :=
  if gi c (gi (gl w.a.next v) j).toNat > b then b + 1 else if gi c (gi (gl w.a.next v) j).toNat - gi (gl w.cost v) j > 0 then gi c (gi (gl w.a.next v) j).toNat - gi (gl w.cost v) j else 0
def bestN (o : Int) (f : Nat → Int) : Nat → Int
  | 0 => -1
  | k + 1 => if bestN o f k < 0 ∨ (o = 0 ∧ f k < bestN o f k) ∨ (o = 1 ∧ f k > bestN o f k) then f k else bestN o f k
theorem bestN_s (o : Int) (f : Nat → Int) (k : Nat) : bestN o f (k + 1) = if bestN o f k < 0 ∨ (o = 0 ∧ f k < bestN o f k) ∨ (o = 1 ∧ f k > bestN o f k) then f k else bestN o f k := rfl
theorem bestN_1 (o : Int) (f : Nat → Int) : bestN o f 1 = f 0 := by
  rw [bestN_s, if_pos (Or.inl (by simp [bestN]))]
def capB (b x : Int) : Int := if b + 1 < x then b + 1 else x
def stepT (w : Wt) (b : Int) (c : List Int) (v : Nat) : Int := capB b (bestN (gi w.a.owner v) (need0 w b c v) (gl w.a.next v).length)
theorem need0_nn {w : Wt} {b : Int} {c : List Int} {v j : Nat} (hb : 0 ≤ b) : 0 ≤ need0 w b c v j := by unfold need0; split <;> (try split) <;> omega
theorem bestN_nn {o : Int} {f : Nat → Int} (hf : ∀ j, 0 ≤ f j) : ∀ k, 1 ≤ k → 0 ≤ bestN o f k
  | 1, _ => by rw [bestN_1]; exact hf 0
  | k + 2, _ => by have h1 := bestN_nn (o := o) hf (k + 1) (by omega); have h2 := hf (k + 1); rw [bestN_s o f (k + 1)]; split <;> omega
theorem bestN_ge {o : Int} {f : Nat → Int} (hf : ∀ j, 0 ≤ f j) : ∀ k, -1 ≤ bestN o f k
  | 0 => by simp only [bestN]; omega
  | k + 1 => by have h1 := bestN_nn (o := o) hf (k + 1) (by omega); omega
theorem bestN_mono {o : Int} (ho : o = 0 ∨ o = 1) {f g : Nat → Int} (hf : ∀ j, 0 ≤ f j) (hg : ∀ j, 0 ≤ g j) : ∀ k, (∀ j, j < k → f j ≤ g j) → bestN o f k ≤ bestN o g k
  | 0, _ => Int.le_refl _
  | 1, h => by rw [bestN_1, bestN_1]; exact h 0 (by omega)
  | k + 2, h => by
    have h1 := bestN_mono ho hf hg (k + 1) (fun j hj => h j (by omega))
    have h2 := h (k + 1) (by omega)
    have h3 := bestN_nn (o := o) hf (k + 1) (by omega)
    have h4 := bestN_nn (o := o) hg (k + 1) (by omega)
    rw [bestN_s o f (k + 1), bestN_s o g (k + 1)]
    rcases ho with rfl | rfl <;> split <;> split <;> omega
theorem need0_mono {w : Wt} {b : Int} {c d : List Int} {v j : Nat} (hb : 0 ≤ b) (hB : gi d (gi (gl w.a.next v) j).toNat ≤ b + 1) (h : gi c (gi (gl w.a.next v) j).toNat ≤ gi d (gi (gl w.a.next v) j).toNat) : capB b (need0 w b c v j) ≤ capB b (need0 w b d v j) := by
  unfold need0 capB
  split <;> split <;> split <;> (try split) <;> omega
theorem bestN_cap {o b : Int} (ho : o = 0 ∨ o = 1) (hb : 0 ≤ b) {f : Nat → Int} (hf : ∀ j, 0 ≤ f j) : ∀ k, capB b (bestN o f k) = bestN o (fun j => capB b (f j)) k
  | 0 => by
    show capB b (-1) = -1
    unfold capB
    rw [if_neg (by omega)]
  | k + 1 => by
    have h1 := bestN_cap ho hb hf k
    have h2 := hf k
    have h3 := bestN_ge (o := o) hf k
    rw [bestN_s, bestN_s, ← h1]
    unfold capB
    rcases ho with rfl | rfl <;> split <;> split <;> split <;> (try split) <;> omega
theorem capB_nn {b x : Int} (hb : 0 ≤ b) (h : 0 ≤ x) : 0 ≤ capB b x := by unfold capB; split <;> omega
theorem stepT_mono {w : Wt} (hw : WSh w) {b : Int} (hb : 0 ≤ b) {c d : List Int} {v : Nat} (hv : v < w.a.owner.length) (hB : ∀ u, u < w.a.owner.length → gi d u ≤ b + 1) (h : ∀ u, u < w.a.owner.length → gi c u ≤ gi d u) : stepT w b c v ≤ stepT w b d v := by
  unfold stepT
  rw [bestN_cap (hw.own v hv) hb fun j => need0_nn hb, bestN_cap (hw.own v hv) hb fun j => need0_nn hb]
  refine bestN_mono (hw.own v hv) (fun j => capB_nn hb (need0_nn hb)) (fun j => capB_nn hb (need0_nn hb)) _ fun j hj => ?_
  have ht := hw.to v hv j hj
  exact need0_mono hb (hB _ (by omega)) (h _ (by omega))
theorem stepT_rg {w : Wt} (hw : WSh w) {b : Int} (hb : 0 ≤ b) {c : List Int} {v : Nat} (hv : v < w.a.owner.length) : 0 ≤ stepT w b c v ∧ stepT w b c v ≤ b + 1 := by
  have h1 := bestN_nn (o := gi w.a.owner v) (f := need0 w b c v) (fun j => need0_nn hb) (gl w.a.next v).length (hw.row v hv).2.1
  unfold stepT capB
  split <;> omega
structure PreC (w : Wt) (b : Int) (d : List Int) : Prop where
  len : d.length = w.a.owner.length
  rg : ∀ v, v < w.a.owner.length → 0 ≤ gi d v ∧ gi d v ≤ b + 1
  pre : ∀ v, v < w.a.owner.length → stepT w b d v ≤ gi d v
structure LowC (w : Wt) (b : Int) (c : List Int) : Prop where
  len : c.length = w.a.owner.length
  rg : ∀ v, v < w.a.owner.length → 0 ≤ gi c v ∧ gi c v ≤ b + 1
  up : ∀ v, v < w.a.owner.length → gi c v ≤ stepT w b c v
  low : ∀ d, PreC w b d → ∀ v, v < w.a.owner.length → gi c v ≤ gi d v
structure Least (w : Wt) (b : Int) (c : List Int) : Prop extends LowC w b c where
  pre : ∀ v, v < w.a.owner.length → stepT w b c v ≤ gi c v
theorem gi_set {c : List Int} {v u : Nat} {x : Int} (hv : v < c.length) : gi (c.set v x) u = if u = v then x else gi c u := by
  unfold gi
  rw [List.getD_eq_getElem?_getD, List.getElem?_set]
  split
  · rename_i h; subst h; simp [hv]
  · rename_i h; rw [if_neg (by omega), List.getD_eq_getElem?_getD]
theorem gi_zero {n v : Nat} : gi (List.replicate n 0) v = 0 := by
  unfold gi
  rw [List.getD_eq_getElem?_getD, List.getElem?_replicate]
  split <;> rfl
theorem LowC.zero {w : Wt} (hw : WSh w) {b : Int} (hb : 0 ≤ b) : LowC w b (List.replicate w.a.owner.length 0) where
  len := by simp
  rg v hv := by rw [gi_zero]; omega
  up v hv := by rw [gi_zero]; exact (stepT_rg hw hb hv).1
  low d hd v hv := by rw [gi_zero]; exact (hd.rg v hv).1
theorem LowC.set {w : Wt} (hw : WSh w) {b : Int} (hb : 0 ≤ b) {c : List Int} (h : LowC w b c) {v : Nat} (hv : v < w.a.owner.length) : LowC w b (c.set v (stepT w b c v)) := by
  have hr := stepT_rg hw hb (c := c) hv
  have hl := h.len
  have hle : ∀ u, u < w.a.owner.length → gi c u ≤ gi (c.set v (stepT w b c v)) u := fun u hu => by
    rw [gi_set (by omega)]
    split
    · rename_i e; subst e; exact h.up u hu
    · exact Int.le_refl _
  have hrg : ∀ u, u < w.a.owner.length → 0 ≤ gi (c.set v (stepT w b c v)) u ∧ gi (c.set v (stepT w b c v)) u ≤ b + 1 := fun u hu => by
    rw [gi_set (by omega)]
    split
    · exact hr
    · exact h.rg u hu
  refine ⟨by simp [hl], hrg, fun u hu => ?_, fun d hd u hu => ?_⟩
  · refine Int.le_trans ?_ (stepT_mono hw hb hu (fun x hx => (hrg x hx).2) hle)
    rw [gi_set (by omega)]
    split
    · rename_i e; subst e; exact Int.le_refl _
    · exact h.up u hu
  · rw [gi_set (by omega)]
    split
    · rename_i e; subst e
      exact Int.le_trans (stepT_mono hw hb hu (fun x hx => (hd.rg x hx).2) (fun x hx => h.low d hd x hx)) (hd.pre u hu)
    · exact h.low d hd u hu
theorem setB_at {xs : List Int} {n : Int} (h : isSetB xs n = true) {j : Nat} (hj : j < xs.length) : 0 ≤ gi xs j ∧ gi xs j < n := by
  have := allB_at h hj
  unfold riseAt at this
  have := of_decide_eq_true this
  exact ⟨this.1, this.2.1⟩
theorem wsh_of {w : Wt} (h : weightedB w = true) : WSh w := by
  obtain ⟨h1, h2, h3, h4, h5, h6⟩ := weighted_facts h
  refine ⟨h1, h2, h3, h4, h5, fun v hv => ⟨(h6 v hv).1, (h6 v hv).2.1, (h6 v hv).2.2.1⟩, fun v hv j hj => ?_, fun v hv j hj => ?_, fun v hv => ?_⟩
  · have := (h6 v hv).2.2.2 j (by rw [(h6 v hv).1]; exact hj)
    omega
  · have := arenaB_at h1 hv
    exact setB_at this.2.2.2.2 hj
  · have := arenaB_at h1 hv
    omega
end Go.Proofs.Ytdbecmmeifdafaa

namespace Go.Proofs.Ytdbecmmeifdafaa
open Nat renaming reduceMod → zA, reduceMul → zB, reduceDiv → zC, reduceAdd → zD, reduceSub → zE, reduceEqDiff → zF, reduceBEq → zG, reduceLT → zH, reduceLeDiff → zI
open Go.RowKit
set_option linter.unusedVariables false
set_option linter.unusedSimpArgs false

set_option maxRecDepth 20000 in
set_option maxHeartbeats 4000000 in
theorem Min_fn (r : List Int) (h : 1 ≤ r.length) (h2 : r.length ≤ 1048576) (hb : ∀ j, j < r.length → -20000 ≤ gi r j ∧ gi r j ≤ 20000) : Fn Try.prog tyT 112 [.c (DI r)] [.c (.int .i64 (-worstI (-gi r 0) r))] := by
  refine Fn_of (fn := Try.f112) (ts := [2]) Try.func112 (by kernel_rfl) rfl rfl (by rw [Try.ntmps112]; exact Nat.le_of_ble_eq_true rfl) rfl (by simp only [szA, List.mem_cons, List.not_mem_nil, or_false, forall_eq_or_imp, forall_eq, VT.cells, szL]; try decide) ?_
  rw [Try.ntmps112]
  simp only [push_cast, ↓brB_true, ↓brB_false, ↓reduceIte, zA, zB, zC, zD, zE, zF, zG, zH, zI, reduceCtorEq]
  refine awp_seq' fun K hK => ?_
  refine awp_region tyOk tyPos [] rfl ?_
  simp only [push_cast, ↓brB_true, ↓brB_false, ↓reduceIte, zA, zB, zC, zD, zE, zF, zG, zH, zI, reduceCtorEq]
  repeat' apply And.intro
  all_goals try exact gB
  all_goals first | (refine hK _ ?_; clear hK K) | (simp only [push_cast]; done)
  refine awp_seq' fun K1 hK1 => ?_
  refine awp_seq' fun K hK => ?_
  refine awp_region tyOk tyPos [] rfl ?_
  simp only [push_cast, ↓brB_true, ↓brB_false, ↓reduceIte, zA, zB, zC, zD, zE, zF, zG, zH, zI, reduceCtorEq]
  repeat' apply And.intro
  all_goals try exact gB
  all_goals first | (refine hK _ ?_; clear hK K) | (simp only [push_cast]; done)
  refine awp_cond rfl (fun hc => ?_) (fun hc => ?_)
  skip
  · exfalso; first | (cases hc; done) | (simp only [push_cast] at hc; done) | (simp only [push_cast] at hc; omega) | omega
  refine awp_skip ?_
  (try simp only [AThen, ABlk, reduceIte, zF]); refine hK1 _ ?_
  refine awp_seq' fun K hK => ?_
  refine awp_region tyOk tyPos [] rfl ?_
  simp only [push_cast, ↓brB_true, ↓brB_false, ↓reduceIte, zA, zB, zC, zD, zE, zF, zG, zH, zI, reduceCtorEq]
  repeat' apply And.intro
  all_goals try exact gB
  all_goals first | (refine hK _ ?_; clear hK K) | (simp only [push_cast]; done)
  refine awp_seq' fun K2 hK2 => ?_
  refine awp_seq' fun K hK => ?_
  refine awp_region tyOk tyPos [] rfl ?_
  simp only [push_cast, ↓brB_true, ↓brB_false, ↓reduceIte, zA, zB, zC, zD, zE, zF, zG, zH, zI, reduceCtorEq]
  repeat' apply And.intro
  all_goals try exact gB
  all_goals first | (refine hK _ ?_; clear hK K) | (simp only [push_cast]; done)
  refine awp_block ?_
  refine awp_loopU [3,4,12,13,14,15,16,17,18,19,20,21,22,23] [] (fun (k : Nat) => [(4, .int .i64 k), (3, .int .i64 (-worstI (-gi r 0) (r.take k)))]) (fun k => []) (fun k => []) (fun k => 1 ≤ k ∧ k ≤ r.length) (fun k => r.length - k) 1 ?_ (by omega) ?_
  ·
    rw [worstI_take (by omega), List.take_zero, show worstI (-gi r 0) [] = -gi r 0 from rfl, if_neg (by omega), Int.neg_neg]
    refine cov_of rfl ?_ ?_ ?_ <;> simp only [covS, covL, push_cast, ↓brB_true, ↓brB_false, ↓reduceIte, zA, zB, zC, zD, zE, zF, zG, zH, zI, reduceCtorEq]
  · rintro k ⟨hk1, hk⟩ KL0 hL0
    simp only [push_cast, ↓brB_true, ↓brB_false, ↓reduceIte, zA, zB, zC, zD, zE, zF, zG, zH, zI, reduceCtorEq]
    refine awp_seq' fun K3 hK3 => ?_
    refine awp_seq' fun K hK => ?_
    refine awp_region tyOk tyPos [] rfl ?_
    simp only [push_cast, ↓brB_true, ↓brB_false, ↓reduceIte, zA, zB, zC, zD, zE, zF, zG, zH, zI, reduceCtorEq]
    repeat' apply And.intro
    all_goals try exact gB
    all_goals first | (refine hK _ ?_; clear hK K) | (simp only [push_cast]; done)
    refine awp_cond rfl (fun hc => ?_) (fun hc => ?_) <;> (try simp only [push_cast] at hc)
    ·
      refine awp_skip ?_
      (try simp only [AThen, ABlk, reduceIte, zF]); refine hK3 _ ?_
      refine awp_seq' fun K4 hK4 => ?_
      refine awp_block ?_
      refine awp_region tyOk tyPos [] rfl ?_
      simp only [push_cast, ↓brB_true, ↓brB_false, ↓reduceIte, zA, zB, zC, zD, zE, zF, zG, zH, zI, reduceCtorEq]
      repeat' apply And.intro
      all_goals try exact gB
      (try simp only [AThen, ABlk, reduceIte, zF]); refine hK4 _ ?_
      refine awp_region tyOk tyPos [] rfl ?_
      simp only [push_cast, ↓brB_true, ↓brB_false, ↓reduceIte, zA, zB, zC, zD, zE, zF, zG, zH, zI, reduceCtorEq]
      repeat' apply And.intro
      all_goals try exact gB
      refine hL0 _ ⟨k + 1, by omega, by omega, ?_⟩
      rw [worstI_take (by omega)]
      refine cov_of rfl ?_ ?_ ?_ <;> simp only [covS, covL, push_cast, ↓brB_true, ↓brB_false, ↓reduceIte, zA, zB, zC, zD, zE, zF, zG, zH, zI, reduceCtorEq]
      all_goals (refine congrArg (AV.int .i64) ?_; omega)
    ·
      refine awp_exit ?_
      (try simp only [AThen, ABlk, reduceIte, zF]); refine hK2 _ ?_
      refine awp_seq' fun K hK => ?_
      refine awp_region tyOk tyPos [] rfl ?_
      simp only [push_cast, ↓brB_true, ↓brB_false, ↓reduceIte, zA, zB, zC, zD, zE, zF, zG, zH, zI, reduceCtorEq]
      repeat' apply And.intro
      all_goals try exact gB
      all_goals first | (refine hK _ ?_; clear hK K) | (simp only [push_cast]; done)
      refine awp_ret ?_
      (try simp only [AThen, ABlk])
      refine ⟨Or.inl rfl, ?_⟩
      simp only [RetOk, push_cast, ↓brB_true, ↓brB_false, ↓reduceIte, zA, zB, zC, zD, zE, zF, zG, zH, zI, reduceCtorEq]
      rw [show k = r.length from by omega, List.take_length]
end Go.Proofs.Ytdbecmmeifdafaa

namespace Go.Proofs.Ytdbecmmeifdafaa
open Nat renaming reduceMod → zA, reduceMul → zB, reduceDiv → zC, reduceAdd → zD, reduceSub → zE, reduceEqDiff → zF, reduceBEq → zG, reduceLT → zH, reduceLeDiff → zI
open Go.RowKit
set_option linter.unusedVariables false
set_option linter.unusedSimpArgs false

end Go.Proofs.Ytdbecmmeifdafaa
