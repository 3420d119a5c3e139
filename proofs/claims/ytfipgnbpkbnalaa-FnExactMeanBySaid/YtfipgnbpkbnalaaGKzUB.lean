/- the least credits, as a least list above its own needs: plain -/
import Derived.Test.YtfipgnbpkbnalaaGWzUB
import Derived.Test.YtfipgnbpkbnalaaGDzUB

namespace Go.Proofs.Ytfipgnbpkbnalaa
open Nat (reduceMod reduceMul reduceDiv reduceAdd reduceSub reduceEqDiff reduceLT reduceLeDiff)
open Go.RowKit
set_option linter.unusedVariables false
set_option linter.unusedSimpArgs false

/-- A weighted arena of the right shape; its costs are not too great. -/
structure WSh (w : Wt) : Prop where
  ok : arenaB w.a = true
  n1 : 1 ≤ w.a.owner.length
  n2 : w.a.owner.length ≤ 24
  nl : w.a.next.length = w.a.owner.length
  cl : w.cost.length = w.a.owner.length
  row : ∀ v, v < w.a.owner.length → (gl w.cost v).length = (gl w.a.next v).length ∧ 1 ≤ (gl w.a.next v).length ∧ (gl w.a.next v).length ≤ 16
  bd : ∀ v, v < w.a.owner.length → ∀ j, j < (gl w.a.next v).length → -20000 ≤ gi (gl w.cost v) j ∧ gi (gl w.cost v) j ≤ 20000
  to : ∀ v, v < w.a.owner.length → ∀ j, j < (gl w.a.next v).length → 0 ≤ gi (gl w.a.next v) j ∧ gi (gl w.a.next v) j < w.a.owner.length
  own : ∀ v, v < w.a.owner.length → gi w.a.owner v = 0 ∨ gi w.a.owner v = 1
/-- The greatest amount by which a cost is below 0, so far. -/
def worstI : Int → List Int → Int
  | m, [] => m
  | m, c :: r => worstI (if -c > m then -c else m) r
theorem worstI_app (m : Int) (a b : List Int) : worstI m (a ++ b) = worstI (worstI m a) b := by
  induction a generalizing m with
  | nil => rfl
  | cons x a ih => exact ih _
theorem worstI_take {m : Int} {r : List Int} {k : Nat} (h : k < r.length) : worstI m (r.take (k + 1)) = if -gi r k > worstI m (r.take k) then -gi r k else worstI m (r.take k) := by
  rw [List.take_add_one, gi_lt h, worstI_app]
  rfl
theorem mem_gi {xs : List Int} {x : Int} (h : x ∈ xs) : ∃ k, k < xs.length ∧ gi xs k = x := by
  obtain ⟨k, hk, rfl⟩ := List.getElem_of_mem h
  refine ⟨k, hk, ?_⟩
  unfold gi
  rw [List.getD_eq_getElem?_getD, List.getElem?_eq_getElem hk]
  rfl
theorem mem_gl {xs : List (List Int)} {x : List Int} (h : x ∈ xs) : ∃ k, k < xs.length ∧ gl xs k = x := by
  obtain ⟨k, hk, rfl⟩ := List.getElem_of_mem h
  refine ⟨k, hk, ?_⟩
  unfold gl
  rw [List.getD_eq_getElem?_getD, List.getElem?_eq_getElem hk]
  rfl
/-- What an edge asks for. -/
def need0 (w : Wt) (b : Int) (c : List Int) (v j : Nat) : Int :=
  if gi c (gi (gl w.a.next v) j).toNat > b then b + 1 else if gi c (gi (gl w.a.next v) j).toNat - gi (gl w.cost v) j > 0 then gi c (gi (gl w.a.next v) j).toNat - gi (gl w.cost v) j else 0
/-- The best of the first few: the least for player 0, the greatest for player 1. -/
def bestN (o : Int) (f : Nat → Int) : Nat → Int
  | 0 => -1
  | k + 1 => if bestN o f k < 0 ∨ (o = 0 ∧ f k < bestN o f k) ∨ (o = 1 ∧ f k > bestN o f k) then f k else bestN o f k
theorem bestN_s (o : Int) (f : Nat → Int) (k : Nat) : bestN o f (k + 1) = if bestN o f k < 0 ∨ (o = 0 ∧ f k < bestN o f k) ∨ (o = 1 ∧ f k > bestN o f k) then f k else bestN o f k := rfl
theorem bestN_1 (o : Int) (f : Nat → Int) : bestN o f 1 = f 0 := by
  rw [bestN_s, if_pos (Or.inl (by simp [bestN]))]
def capB (b x : Int) : Int := if b + 1 < x then b + 1 else x
def stepT (w : Wt) (b : Int) (c : List Int) (v : Nat) : Int := capB b (bestN (gi w.a.owner v) (need0 w b c v) (gl w.a.next v).length)
theorem need0_nn {w : Wt} {b : Int} {c : List Int} {v j : Nat} (hb : 0 ≤ b) : 0 ≤ need0 w b c v j := by unfold need0; split <;> (try split) <;> omega
theorem bestN_nn {o : Int} {f : Nat → Int} (hf : ∀ j, 0 ≤ f j) : ∀ k, 1 ≤ k → 0 ≤ bestN o f k
  | 1, _ => by rw [bestN_1]; exact hf 0
  | k + 2, _ => by have h1 := bestN_nn (o := o) hf (k + 1) (by omega); have h2 := hf (k + 1); rw [bestN_s o f (k + 1)]; split <;> omega
theorem bestN_ge {o : Int} {f : Nat → Int} (hf : ∀ j, 0 ≤ f j) : ∀ k, -1 ≤ bestN o f k
  | 0 => by simp only [bestN]; omega
  | k + 1 => by have h1 := bestN_nn (o := o) hf (k + 1) (by omega); omega
theorem bestN_mono {o : Int} (ho : o = 0 ∨ o = 1) {f g : Nat → Int} (hf : ∀ j, 0 ≤ f j) (hg : ∀ j, 0 ≤ g j) : ∀ k, (∀ j, j < k → f j ≤ g j) → bestN o f k ≤ bestN o g k
  | 0, _ => Int.le_refl _
  | 1, h => by rw [bestN_1, bestN_1]; exact h 0 (by omega)
  | k + 2, h => by
    have h1 := bestN_mono ho hf hg (k + 1) (fun j hj => h j (by omega))
    have h2 := h (k + 1) (by omega)
    have h3 := bestN_nn (o := o) hf (k + 1) (by omega)
    have h4 := bestN_nn (o := o) hg (k + 1) (by omega)
    rw [bestN_s o f (k + 1), bestN_s o g (k + 1)]
    rcases ho with rfl | rfl <;> split <;> split <;> omega
theorem need0_mono {w : Wt} {b : Int} {c d : List Int} {v j : Nat} (hb : 0 ≤ b) (hB : gi d (gi (gl w.a.next v) j).toNat ≤ b + 1) (h : gi c (gi (gl w.a.next v) j).toNat ≤ gi d (gi (gl w.a.next v) j).toNat) : capB b (need0 w b c v j) ≤ capB b (need0 w b d v j) := by
  unfold need0 capB
  split <;> split <;> split <;> (try split) <;> omega
theorem bestN_cap {o b : Int} (ho : o = 0 ∨ o = 1) (hb : 0 ≤ b) {f : Nat → Int} (hf : ∀ j, 0 ≤ f j) : ∀ k, capB b (bestN o f k) = bestN o (fun j => capB b (f j)) k
  | 0 => by
    show capB b (-1) = -1
    unfold capB
    rw [if_neg (by omega)]
  | k + 1 => by
    have h1 := bestN_cap ho hb hf k
    have h2 := hf k
    have h3 := bestN_ge (o := o) hf k
    rw [bestN_s, bestN_s, ← h1]
    unfold capB
    rcases ho with rfl | rfl <;> split <;> split <;> split <;> (try split) <;> omega
theorem capB_nn {b x : Int} (hb : 0 ≤ b) (h : 0 ≤ x) : 0 ≤ capB b x := by unfold capB; split <;> omega
theorem stepT_mono {w : Wt} (hw : WSh w) {b : Int} (hb : 0 ≤ b) {c d : List Int} {v : Nat} (hv : v < w.a.owner.length) (hB : ∀ u, u < w.a.owner.length → gi d u ≤ b + 1) (h : ∀ u, u < w.a.owner.length → gi c u ≤ gi d u) : stepT w b c v ≤ stepT w b d v := by
  unfold stepT
  rw [bestN_cap (hw.own v hv) hb fun j => need0_nn hb, bestN_cap (hw.own v hv) hb fun j => need0_nn hb]
  refine bestN_mono (hw.own v hv) (fun j => capB_nn hb (need0_nn hb)) (fun j => capB_nn hb (need0_nn hb)) _ fun j hj => ?_
  have ht := hw.to v hv j hj
  exact need0_mono hb (hB _ (by omega)) (h _ (by omega))
theorem stepT_rg {w : Wt} (hw : WSh w) {b : Int} (hb : 0 ≤ b) {c : List Int} {v : Nat} (hv : v < w.a.owner.length) : 0 ≤ stepT w b c v ∧ stepT w b c v ≤ b + 1 := by
  have h1 := bestN_nn (o := gi w.a.owner v) (f := need0 w b c v) (fun j => need0_nn hb) (gl w.a.next v).length (hw.row v hv).2.1
  unfold stepT capB
  split <;> omega
structure PreC (w : Wt) (b : Int) (d : List Int) : Prop where
  len : d.length = w.a.owner.length
  rg : ∀ v, v < w.a.owner.length → 0 ≤ gi d v ∧ gi d v ≤ b + 1
  pre : ∀ v, v < w.a.owner.length → stepT w b d v ≤ gi d v
structure LowC (w : Wt) (b : Int) (c : List Int) : Prop where
  len : c.length = w.a.owner.length
  rg : ∀ v, v < w.a.owner.length → 0 ≤ gi c v ∧ gi c v ≤ b + 1
  up : ∀ v, v < w.a.owner.length → gi c v ≤ stepT w b c v
  low : ∀ d, PreC w b d → ∀ v, v < w.a.owner.length → gi c v ≤ gi d v
/-- The least list above its needs. -/
structure Least (w : Wt) (b : Int) (c : List Int) : Prop extends LowC w b c where
  pre : ∀ v, v < w.a.owner.length → stepT w b c v ≤ gi c v
theorem gi_set {c : List Int} {v u : Nat} {x : Int} (hv : v < c.length) : gi (c.set v x) u = if u = v then x else gi c u := by
  unfold gi
  rw [List.getD_eq_getElem?_getD, List.getElem?_set]
  split
  · rename_i h; subst h; simp [hv]
  · rename_i h; rw [if_neg (by omega), List.getD_eq_getElem?_getD]
theorem gi_zero {n v : Nat} : gi (List.replicate n 0) v = 0 := by
  unfold gi
  rw [List.getD_eq_getElem?_getD, List.getElem?_replicate]
  split <;> rfl
theorem LowC.zero {w : Wt} (hw : WSh w) {b : Int} (hb : 0 ≤ b) : LowC w b (List.replicate w.a.owner.length 0) where
  len := by simp
  rg v hv := by rw [gi_zero]; omega
  up v hv := by rw [gi_zero]; exact (stepT_rg hw hb hv).1
  low d hd v hv := by rw [gi_zero]; exact (hd.rg v hv).1
theorem LowC.set {w : Wt} (hw : WSh w) {b : Int} (hb : 0 ≤ b) {c : List Int} (h : LowC w b c) {v : Nat} (hv : v < w.a.owner.length) : LowC w b (c.set v (stepT w b c v)) := by
  have hr := stepT_rg hw hb (c := c) hv
  have hl := h.len
  have hle : ∀ u, u < w.a.owner.length → gi c u ≤ gi (c.set v (stepT w b c v)) u := fun u hu => by
    rw [gi_set (by omega)]
    split
    · rename_i e; subst e; exact h.up u hu
    · exact Int.le_refl _
  have hrg : ∀ u, u < w.a.owner.length → 0 ≤ gi (c.set v (stepT w b c v)) u ∧ gi (c.set v (stepT w b c v)) u ≤ b + 1 := fun u hu => by
    rw [gi_set (by omega)]
    split
    · exact hr
    · exact h.rg u hu
  refine ⟨by simp [hl], hrg, fun u hu => ?_, fun d hd u hu => ?_⟩
  · refine Int.le_trans ?_ (stepT_mono hw hb hu (fun x hx => (hrg x hx).2) hle)
    rw [gi_set (by omega)]
    split
    · rename_i e; subst e; exact Int.le_refl _
    · exact h.up u hu
  · rw [gi_set (by omega)]
    split
    · rename_i e; subst e
      exact Int.le_trans (stepT_mono hw hb hu (fun x hx => (hd.rg x hx).2) (fun x hx => h.low d hd x hx)) (hd.pre u hu)
    · exact h.low d hd u hu
theorem setB_at {xs : List Int} {n : Int} (h : isSetB xs n = true) {j : Nat} (hj : j < xs.length) : 0 ≤ gi xs j ∧ gi xs j < n := by
  have := allB_at h hj
  unfold riseAt at this
  have := of_decide_eq_true this
  exact ⟨this.1, this.2.1⟩
theorem wsh_of {w : Wt} (h : weightedB w = true) : WSh w := by
  obtain ⟨h1, h2, h3, h4, h5, h6⟩ := weighted_facts h
  refine ⟨h1, h2, h3, h4, h5, fun v hv => ⟨(h6 v hv).1, (h6 v hv).2.1, (h6 v hv).2.2.1⟩, fun v hv j hj => ?_, fun v hv j hj => ?_, fun v hv => ?_⟩
  · have := (h6 v hv).2.2.2 j (by rw [(h6 v hv).1]; exact hj)
    omega
  · have := arenaB_at h1 hv
    exact setB_at this.2.2.2.2 hj
  · have := arenaB_at h1 hv
    omega
end Go.Proofs.Ytfipgnbpkbnalaa

/- the bound of credits: both sides -/
namespace Go.Proofs.Ytfipgnbpkbnalaa
open Nat (reduceMod reduceMul reduceDiv reduceAdd reduceSub reduceEqDiff reduceLT reduceLeDiff)
open Go.RowKit
set_option linter.unusedVariables false
set_option linter.unusedSimpArgs false

set_option maxRecDepth 20000 in
set_option maxHeartbeats 4000000 in
theorem l1Max_fn (x y : Int) : Fn Try.prog tyT 74 [.c (.int .i64 x), .c (.int .i64 y)] [.c (.int .i64 (if y > x then y else x))] := by
  refine Fn_of (fn := Try.f74) (ts := [4]) Try.func74 (by kernel_rfl) rfl rfl (by rw [Try.ntmps74]; exact Nat.le_of_ble_eq_true rfl) rfl (by simp only [szA, List.mem_cons, List.not_mem_nil, or_false, forall_eq_or_imp, forall_eq, VT.cells, szL]; try decide) ?_
  rw [Try.ntmps74]
  simp only [push_cast, ↓brB_true, ↓brB_false, ↓reduceIte, reduceMod, reduceMul, reduceDiv, reduceAdd, reduceSub, reduceEqDiff, Nat.reduceBEq, reduceLT, reduceLeDiff, reduceCtorEq]
  refine awp_seq' fun K hK => ?_
  refine awp_region tyOk tyPos [] rfl ?_
  simp only [push_cast, ↓brB_true, ↓brB_false, ↓reduceIte, reduceMod, reduceMul, reduceDiv, reduceAdd, reduceSub, reduceEqDiff, Nat.reduceBEq, reduceLT, reduceLeDiff, reduceCtorEq]
  repeat' apply And.intro
  all_goals first | exact True.intro | exact rfl | omega | with_reducible assumption | (simp only [List.length_set, List.length_append, List.length_replicate, List.length_cons, List.length_nil]; omega) | skip
  all_goals first | (refine hK _ ?_; clear hK K) | (simp only [push_cast]; done)
  refine awp_seq' fun K1 hK1 => ?_
  refine awp_seq' fun K hK => ?_
  refine awp_region tyOk tyPos [] rfl ?_
  simp only [push_cast, ↓brB_true, ↓brB_false, ↓reduceIte, reduceMod, reduceMul, reduceDiv, reduceAdd, reduceSub, reduceEqDiff, Nat.reduceBEq, reduceLT, reduceLeDiff, reduceCtorEq]
  repeat' apply And.intro
  all_goals first | exact True.intro | exact rfl | omega | with_reducible assumption | (simp only [List.length_set, List.length_append, List.length_replicate, List.length_cons, List.length_nil]; omega) | skip
  all_goals first | (refine hK _ ?_; clear hK K) | (simp only [push_cast]; done)
  refine awp_cond rfl (fun hc => ?_) (fun hc => ?_) <;> (try simp only [push_cast] at hc)
  ·
    refine awp_seq' fun K hK => ?_
    refine awp_region tyOk tyPos [] rfl ?_
    simp only [push_cast, ↓brB_true, ↓brB_false, ↓reduceIte, reduceMod, reduceMul, reduceDiv, reduceAdd, reduceSub, reduceEqDiff, Nat.reduceBEq, reduceLT, reduceLeDiff, reduceCtorEq]
    repeat' apply And.intro
    all_goals first | exact True.intro | exact rfl | omega | with_reducible assumption | (simp only [List.length_set, List.length_append, List.length_replicate, List.length_cons, List.length_nil]; omega) | skip
    all_goals first | (refine hK _ ?_; clear hK K) | (simp only [push_cast]; done)
    refine awp_ret ?_
    (try simp only [AThen, ABlk])
    refine ⟨Or.inl rfl, ?_⟩
    simp only [RetOk, push_cast, ↓brB_true, ↓brB_false, ↓reduceIte, reduceMod, reduceMul, reduceDiv, reduceAdd, reduceSub, reduceEqDiff, Nat.reduceBEq, reduceLT, reduceLeDiff, reduceCtorEq]
    split <;> omega
  ·
    refine awp_skip ?_
    (try simp only [AThen, ABlk, reduceIte, reduceEqDiff]); refine hK1 _ ?_
    refine awp_seq' fun K hK => ?_
    refine awp_region tyOk tyPos [] rfl ?_
    simp only [push_cast, ↓brB_true, ↓brB_false, ↓reduceIte, reduceMod, reduceMul, reduceDiv, reduceAdd, reduceSub, reduceEqDiff, Nat.reduceBEq, reduceLT, reduceLeDiff, reduceCtorEq]
    repeat' apply And.intro
    all_goals first | exact True.intro | exact rfl | omega | with_reducible assumption | (simp only [List.length_set, List.length_append, List.length_replicate, List.length_cons, List.length_nil]; omega) | skip
    all_goals first | (refine hK _ ?_; clear hK K) | (simp only [push_cast]; done)
    refine awp_ret ?_
    (try simp only [AThen, ABlk])
    refine ⟨Or.inl rfl, ?_⟩
    simp only [RetOk, push_cast, ↓brB_true, ↓brB_false, ↓reduceIte, reduceMod, reduceMul, reduceDiv, reduceAdd, reduceSub, reduceEqDiff, Nat.reduceBEq, reduceLT, reduceLeDiff, reduceCtorEq]
    split <;> omega
set_option maxRecDepth 20000 in
set_option maxHeartbeats 4000000 in
theorem Min_fn (r : List Int) (h : 1 ≤ r.length) (h2 : r.length ≤ 1048576) (hb : ∀ j, j < r.length → -20000 ≤ gi r j ∧ gi r j ≤ 20000) : Fn Try.prog tyT 80 [.c (DI r)] [.c (.int .i64 (-worstI (-gi r 0) r))] := by
  refine Fn_of (fn := Try.f80) (ts := [2]) Try.func80 (by kernel_rfl) rfl rfl (by rw [Try.ntmps80]; exact Nat.le_of_ble_eq_true rfl) rfl (by simp only [szA, List.mem_cons, List.not_mem_nil, or_false, forall_eq_or_imp, forall_eq, VT.cells, szL]; try decide) ?_
  rw [Try.ntmps80]
  simp only [push_cast, ↓brB_true, ↓brB_false, ↓reduceIte, reduceMod, reduceMul, reduceDiv, reduceAdd, reduceSub, reduceEqDiff, Nat.reduceBEq, reduceLT, reduceLeDiff, reduceCtorEq]
  refine awp_seq' fun K hK => ?_
  refine awp_region tyOk tyPos [] rfl ?_
  simp only [push_cast, ↓brB_true, ↓brB_false, ↓reduceIte, reduceMod, reduceMul, reduceDiv, reduceAdd, reduceSub, reduceEqDiff, Nat.reduceBEq, reduceLT, reduceLeDiff, reduceCtorEq]
  repeat' apply And.intro
  all_goals first | exact True.intro | exact rfl | omega | with_reducible assumption | (simp only [List.length_set, List.length_append, List.length_replicate, List.length_cons, List.length_nil]; omega) | skip
  all_goals first | (refine hK _ ?_; clear hK K) | (simp only [push_cast]; done)
  refine awp_seq' fun K1 hK1 => ?_
  refine awp_seq' fun K hK => ?_
  refine awp_region tyOk tyPos [] rfl ?_
  simp only [push_cast, ↓brB_true, ↓brB_false, ↓reduceIte, reduceMod, reduceMul, reduceDiv, reduceAdd, reduceSub, reduceEqDiff, Nat.reduceBEq, reduceLT, reduceLeDiff, reduceCtorEq]
  repeat' apply And.intro
  all_goals first | exact True.intro | exact rfl | omega | with_reducible assumption | (simp only [List.length_set, List.length_append, List.length_replicate, List.length_cons, List.length_nil]; omega) | skip
  all_goals first | (refine hK _ ?_; clear hK K) | (simp only [push_cast]; done)
  refine awp_cond rfl (fun hc => ?_) (fun hc => ?_)
  skip
  · exfalso; first | (cases hc; done) | (simp only [push_cast] at hc; done) | (simp only [push_cast] at hc; omega) | omega
  refine awp_skip ?_
  (try simp only [AThen, ABlk, reduceIte, reduceEqDiff]); refine hK1 _ ?_
  refine awp_seq' fun K hK => ?_
  refine awp_region tyOk tyPos [] rfl ?_
  simp only [push_cast, ↓brB_true, ↓brB_false, ↓reduceIte, reduceMod, reduceMul, reduceDiv, reduceAdd, reduceSub, reduceEqDiff, Nat.reduceBEq, reduceLT, reduceLeDiff, reduceCtorEq]
  repeat' apply And.intro
  all_goals first | exact True.intro | exact rfl | omega | with_reducible assumption | (simp only [List.length_set, List.length_append, List.length_replicate, List.length_cons, List.length_nil]; omega) | skip
  all_goals first | (refine hK _ ?_; clear hK K) | (simp only [push_cast]; done)
  refine awp_seq' fun K2 hK2 => ?_
  refine awp_seq' fun K hK => ?_
  refine awp_region tyOk tyPos [] rfl ?_
  simp only [push_cast, ↓brB_true, ↓brB_false, ↓reduceIte, reduceMod, reduceMul, reduceDiv, reduceAdd, reduceSub, reduceEqDiff, Nat.reduceBEq, reduceLT, reduceLeDiff, reduceCtorEq]
  repeat' apply And.intro
  all_goals first | exact True.intro | exact rfl | omega | with_reducible assumption | (simp only [List.length_set, List.length_append, List.length_replicate, List.length_cons, List.length_nil]; omega) | skip
  all_goals first | (refine hK _ ?_; clear hK K) | (simp only [push_cast]; done)
  refine awp_block ?_
  refine awp_loopU [3,4,12,13,14,15,16,17,18,19,20,21,22,23] [] (fun (k : Nat) => [(4, .int .i64 k), (3, .int .i64 (-worstI (-gi r 0) (r.take k)))]) (fun k => []) (fun k => []) (fun k => 1 ≤ k ∧ k ≤ r.length) (fun k => r.length - k) 1 ?_ (by omega) ?_
  ·
    rw [worstI_take (by omega), List.take_zero, show worstI (-gi r 0) [] = -gi r 0 from rfl, if_neg (by omega), Int.neg_neg]
    refine cov_of rfl ?_ ?_ ?_ <;> simp only [covS, covL, push_cast, ↓brB_true, ↓brB_false, ↓reduceIte, reduceMod, reduceMul, reduceDiv, reduceAdd, reduceSub, reduceEqDiff, Nat.reduceBEq, reduceLT, reduceLeDiff, reduceCtorEq]
  · rintro k ⟨hk1, hk⟩ KL0 hL0
    simp only [push_cast, ↓brB_true, ↓brB_false, ↓reduceIte, reduceMod, reduceMul, reduceDiv, reduceAdd, reduceSub, reduceEqDiff, Nat.reduceBEq, reduceLT, reduceLeDiff, reduceCtorEq]
    refine awp_seq' fun K3 hK3 => ?_
    refine awp_seq' fun K hK => ?_
    refine awp_region tyOk tyPos [] rfl ?_
    simp only [push_cast, ↓brB_true, ↓brB_false, ↓reduceIte, reduceMod, reduceMul, reduceDiv, reduceAdd, reduceSub, reduceEqDiff, Nat.reduceBEq, reduceLT, reduceLeDiff, reduceCtorEq]
    repeat' apply And.intro
    all_goals first | exact True.intro | exact rfl | omega | with_reducible assumption | (simp only [List.length_set, List.length_append, List.length_replicate, List.length_cons, List.length_nil]; omega) | skip
    all_goals first | (refine hK _ ?_; clear hK K) | (simp only [push_cast]; done)
    refine awp_cond rfl (fun hc => ?_) (fun hc => ?_) <;> (try simp only [push_cast] at hc)
    ·
      refine awp_skip ?_
      (try simp only [AThen, ABlk, reduceIte, reduceEqDiff]); refine hK3 _ ?_
      refine awp_seq' fun K4 hK4 => ?_
      refine awp_block ?_
      refine awp_region tyOk tyPos [] rfl ?_
      simp only [push_cast, ↓brB_true, ↓brB_false, ↓reduceIte, reduceMod, reduceMul, reduceDiv, reduceAdd, reduceSub, reduceEqDiff, Nat.reduceBEq, reduceLT, reduceLeDiff, reduceCtorEq]
      repeat' apply And.intro
      all_goals first | exact True.intro | exact rfl | omega | with_reducible assumption | (simp only [List.length_set, List.length_append, List.length_replicate, List.length_cons, List.length_nil]; omega) | skip
      (try simp only [AThen, ABlk, reduceIte, reduceEqDiff]); refine hK4 _ ?_
      refine awp_region tyOk tyPos [] rfl ?_
      simp only [push_cast, ↓brB_true, ↓brB_false, ↓reduceIte, reduceMod, reduceMul, reduceDiv, reduceAdd, reduceSub, reduceEqDiff, Nat.reduceBEq, reduceLT, reduceLeDiff, reduceCtorEq]
      repeat' apply And.intro
      all_goals first | exact True.intro | exact rfl | omega | with_reducible assumption | (simp only [List.length_set, List.length_append, List.length_replicate, List.length_cons, List.length_nil]; omega) | skip
      refine hL0 _ ⟨k + 1, by omega, by omega, ?_⟩
      rw [worstI_take (by omega)]
      refine cov_of rfl ?_ ?_ ?_ <;> simp only [covS, covL, push_cast, ↓brB_true, ↓brB_false, ↓reduceIte, reduceMod, reduceMul, reduceDiv, reduceAdd, reduceSub, reduceEqDiff, Nat.reduceBEq, reduceLT, reduceLeDiff, reduceCtorEq]
      all_goals (refine congrArg (AV.int .i64) ?_; omega)
    ·
      refine awp_exit ?_
      (try simp only [AThen, ABlk, reduceIte, reduceEqDiff]); refine hK2 _ ?_
      refine awp_seq' fun K hK => ?_
      refine awp_region tyOk tyPos [] rfl ?_
      simp only [push_cast, ↓brB_true, ↓brB_false, ↓reduceIte, reduceMod, reduceMul, reduceDiv, reduceAdd, reduceSub, reduceEqDiff, Nat.reduceBEq, reduceLT, reduceLeDiff, reduceCtorEq]
      repeat' apply And.intro
      all_goals first | exact True.intro | exact rfl | omega | with_reducible assumption | (simp only [List.length_set, List.length_append, List.length_replicate, List.length_cons, List.length_nil]; omega) | skip
      all_goals first | (refine hK _ ?_; clear hK K) | (simp only [push_cast]; done)
      refine awp_ret ?_
      (try simp only [AThen, ABlk])
      refine ⟨Or.inl rfl, ?_⟩
      simp only [RetOk, push_cast, ↓brB_true, ↓brB_false, ↓reduceIte, reduceMod, reduceMul, reduceDiv, reduceAdd, reduceSub, reduceEqDiff, Nat.reduceBEq, reduceLT, reduceLeDiff, reduceCtorEq]
      rw [show k = r.length from by omega, List.take_length]
end Go.Proofs.Ytfipgnbpkbnalaa

/- the least credits: both sides -/
namespace Go.Proofs.Ytfipgnbpkbnalaa
open Nat (reduceMod reduceMul reduceDiv reduceAdd reduceSub reduceEqDiff reduceLT reduceLeDiff)
open Go.RowKit
set_option linter.unusedVariables false
set_option linter.unusedSimpArgs false

end Go.Proofs.Ytfipgnbpkbnalaa
