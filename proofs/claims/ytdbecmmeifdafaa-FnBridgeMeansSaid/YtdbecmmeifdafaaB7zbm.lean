/- The recursive solver of the reference: its small functions -/
import Derived.Test.YtdbecmmeifdafaaB4zbm
import Derived.Test.YtdbecmmeifdafaaB6zbm
namespace Go.Proofs.Ytdbecmmeifdafaa
open Nat renaming reduceMod → zA, reduceMul → zB, reduceDiv → zC, reduceAdd → zD, reduceSub → zE, reduceEqDiff → zF, reduceBEq → zG, reduceLT → zH, reduceLeDiff → zI
open Go.RowKit
set_option linter.unusedVariables false
set_option linter.unusedSimpArgs false

theorem take_dB (xs : List Bool) (n : Nat) : (dB xs).take n = dB (xs.take n) := by simp [dB]
attribute [push_cast] take_dB
structure L7 where
  owner : List Int
  prio : List Int
  next : List (List Int)
  prev : List (List Int)
  pick : List Int
def dL7 (x : L7) : List D := [DI x.owner, DI x.prio, DII x.next, DII x.prev, DI x.pick]
structure L7.Ok (x : L7) (n : Nat) : Prop where
  hn : n ≤ 256
  ho : x.owner.length = n
  hp : x.prio.length = n
  hx : x.next.length = n
  hv : x.prev.length = n
  hk : x.pick.length = n
  deg : ∀ v, v < n → (gl x.next v).length ≤ 256
  to : ∀ v, v < n → ∀ j, j < (gl x.next v).length → 0 ≤ gi (gl x.next v) j ∧ gi (gl x.next v) j < n
  pr : ∀ v, v < n → 0 ≤ gi x.prio v ∧ gi x.prio v ≤ 40
  ow : ∀ v, v < n → gi x.owner v = 0 ∨ gi x.owner v = 1
  nd : ∀ v, v < n → ∀ i j, i < j → j < (gl x.next v).length → gi (gl x.next v) i ≠ gi (gl x.next v) j
  dpv : ∀ u, u < n → (gl x.prev u).length ≤ 256
  pin : ∀ u, u < n → ∀ m, m < (gl x.prev u).length → (0 ≤ gi (gl x.prev u) m ∧ gi (gl x.prev u) m < n) ∧ ∃ j, j < (gl x.next (gi (gl x.prev u) m).toNat).length ∧ gi (gl x.next (gi (gl x.prev u) m).toNat) j = u
  pal : ∀ v, v < n → ∀ j, j < (gl x.next v).length → ∃ m, m < (gl x.prev (gi (gl x.next v) j).toNat).length ∧ gi (gl x.prev (gi (gl x.next v) j).toNat) m = v
  pnd : ∀ u, u < n → ∀ i j, i < j → j < (gl x.prev u).length → gi (gl x.prev u) i ≠ gi (gl x.prev u) j
def edB (x : L7) (v u : Int) : Bool := decide (gi x.pick v.toNat < 0 ∨ gi x.pick v.toNat = u)
def degK (x : L7) (inn : List Bool) (v : Nat) : Nat → Int
  | 0 => 0
  | k + 1 => if gb inn (gi (gl x.next v) k).toNat && edB x v (gi (gl x.next v) k) then degK x inn v k + 1 else degK x inn v k
theorem degK_rg (x : L7) (inn : List Bool) (v : Nat) : ∀ k, 0 ≤ degK x inn v k ∧ degK x inn v k ≤ k
  | 0 => ⟨Int.le_refl _, Int.le_refl _⟩
  | k + 1 => by
    have := degK_rg x inn v k
    unfold degK
    split <;> omega
theorem degK_yes {x : L7} {inn : List Bool} {v k : Nat} (h1 : gb inn (gi (gl x.next v) k).toNat = true) (h2 : edB x v (gi (gl x.next v) k) = true) : degK x inn v (k + 1) = degK x inn v k + 1 := by
  show (if _ then _ else _) = _; rw [h1, h2]; rfl
theorem degK_no1 {x : L7} {inn : List Bool} {v k : Nat} (h1 : gb inn (gi (gl x.next v) k).toNat = false) : degK x inn v (k + 1) = degK x inn v k := by
  show (if _ then _ else _) = _; rw [h1]; rfl
theorem degK_no2 {x : L7} {inn : List Bool} {v k : Nat} (h2 : edB x v (gi (gl x.next v) k) = false) : degK x inn v (k + 1) = degK x inn v k := by
  show (if _ then _ else _) = _; rw [h2, Bool.and_false]; rfl
def degL (x : L7) (inn : List Bool) (v : Nat) : Int := degK x inn v (gl x.next v).length
def mkB (n : Nat) (f : Nat → Bool) (k : Nat) : List Bool := (List.range k).map f ++ List.replicate (n - k) false
theorem mkB_len {n : Nat} {f : Nat → Bool} {k : Nat} (h : k ≤ n) : (mkB n f k).length = n := by unfold mkB; simp; omega
theorem mkB_0 (n : Nat) (f : Nat → Bool) : mkB n f 0 = List.replicate n false := by simp [mkB]
theorem mkB_n (n : Nat) (f : Nat → Bool) : mkB n f n = (List.range n).map f := by simp [mkB]
theorem mkB_set {n : Nat} {f : Nat → Bool} {k : Nat} (h : k < n) : (mkB n f k).set k (f k) = mkB n f (k + 1) := by
  unfold mkB
  rw [List.set_append_right _ _ (by simp), List.length_map, List.length_range, Nat.sub_self, show n - k = (n - (k + 1)) + 1 from by omega, List.replicate_succ, List.set_cons_zero, List.range_succ, List.map_append, List.append_assoc]
  rfl
theorem mkB_at {n : Nat} {f : Nat → Bool} {v : Nat} (h : v < n) : gb ((List.range n).map f) v = f v := by
  unfold gb
  rw [List.getD_eq_getElem?_getD, List.getElem?_map, List.getElem?_range h]
  rfl
def lessB (inn out : List Bool) (v : Nat) : Bool := gb inn v && !gb out v
def lessL (inn out : List Bool) : List Bool := (List.range inn.length).map (lessB inn out)
def topK (x : L7) (inn : List Bool) : Nat → Int
  | 0 => -1
  | k + 1 => if gb inn k then max (topK x inn k) (gi x.prio k) else topK x inn k
theorem topK_rg {x : L7} {n : Nat} (h : x.Ok n) (inn : List Bool) : ∀ k, k ≤ n → -1 ≤ topK x inn k ∧ topK x inn k ≤ 40
  | 0, _ => ⟨Int.le_refl _, (show (-1 : Int) ≤ 40 by decide)⟩
  | k + 1, hk => by
    have := topK_rg h inn k (by omega)
    have := h.pr k (by omega)
    unfold topK
    split <;> omega
theorem topK_yes {x : L7} {inn : List Bool} {k : Nat} (h : gb inn k = true) : topK x inn (k + 1) = if gi x.prio k > topK x inn k then gi x.prio k else topK x inn k := by
  show (if _ then _ else _) = _
  rw [if_pos h]
  split <;> omega
theorem topK_no {x : L7} {inn : List Bool} {k : Nat} (h : gb inn k = false) : topK x inn (k + 1) = topK x inn k := by
  show (if _ then _ else _) = _
  rw [h]; rfl
set_option maxRecDepth 20000 in
set_option maxHeartbeats 4000000 in
theorem l7Edge_fn (x : L7) (n : Nat) (hx : x.Ok n) (v u : Int) (hv : 0 ≤ v ∧ v < n) : Fn Try.prog tyT 165 [.agg (dL7 x), .c (.int .i64 v), .c (.int .i64 u)] [.c (.bool (edB x v u))] := by
  have hn1 := hx.hn
  have hn2 := hx.ho
  have hn3 := hx.hp
  have hn4 := hx.hx
  have hn5 := hx.hv
  have hn6 := hx.hk
  unfold dL7
  refine Fn_of (fn := Try.f165) (ts := [6]) Try.func165 (by kernel_rfl) rfl rfl (by rw [Try.ntmps165]; exact Nat.le_of_ble_eq_true rfl) rfl (by simp only [szA, List.mem_cons, List.not_mem_nil, or_false, forall_eq_or_imp, forall_eq, VT.cells, szL]; try decide) ?_
  rw [Try.ntmps165]
  simp only [push_cast, ↓brB_true, ↓brB_false, ↓reduceIte, zA, zB, zC, zD, zE, zF, zG, zH, zI, reduceCtorEq]
  refine awp_seq' fun K hK => ?_
  refine awp_region tyOk tyPos [] rfl ?_
  simp only [push_cast, ↓brB_true, ↓brB_false, ↓reduceIte, zA, zB, zC, zD, zE, zF, zG, zH, zI, reduceCtorEq]
  repeat' apply And.intro
  all_goals try exact gB
  all_goals first | (refine hK _ ?_; clear hK K) | (simp only [push_cast]; done)
  refine awp_seq' fun K hK => ?_
  refine awp_regionN false tyOk tyPos ?_ rfl ?_
  · kernel_rfl
  all_goals simp only [push_cast, ↓brB_true, ↓brB_false, ↓reduceIte, zA, zB, zC, zD, zE, zF, zG, zH, zI, reduceCtorEq]
  all_goals repeat' (first | (apply brB_mk <;> (intro hg; (try simp only [push_cast] at hg))) | apply And.intro | (intro hg; (try simp only [push_cast] at hg)))
  all_goals try exact gA
  all_goals first | (refine hK _ ?_; clear hK K) | (simp only [push_cast]; done)
  all_goals (
      refine awp_ret ?_
      (try simp only [AThen, ABlk])
      refine ⟨Or.inl rfl, ?_⟩
      simp only [RetOk, push_cast, ↓brB_true, ↓brB_false, ↓reduceIte, zA, zB, zC, zD, zE, zF, zG, zH, zI, reduceCtorEq]
      all_goals first | (symm; unfold edB; rw [decide_eq_true_eq]; omega) | (symm; unfold edB; rw [decide_eq_false_iff_not]; omega) | (unfold edB; rw [Bool.eq_iff_iff]; simp; omega))
set_option maxRecDepth 20000 in
set_option maxHeartbeats 4000000 in
theorem l7Degree_fn (x : L7) (n : Nat) (hx : x.Ok n) (inn : List Bool) (hi : inn.length = n) (v : Nat) (hv : v < n) : Fn Try.prog tyT 164 [.agg (dL7 x), .c (.lst 4 (dB inn)), .c (.int .i64 v)] [.c (.int .i64 (degL x inn v))] := by
  have hn1 := hx.hn
  have hn2 := hx.ho
  have hn3 := hx.hp
  have hn4 := hx.hx
  have hn5 := hx.hv
  have hn6 := hx.hk
  have hdeg := hx.deg v hv
  have hto := hx.to v hv
  have hE := fun u => l7Edge_fn x n hx (v : Int) u (by omega)
  unfold dL7 at hE ⊢
  refine Fn_of (fn := Try.f164) (ts := [6]) Try.func164 (by kernel_rfl) rfl rfl (by rw [Try.ntmps164]; exact Nat.le_of_ble_eq_true rfl) rfl (by simp only [szA, List.mem_cons, List.not_mem_nil, or_false, forall_eq_or_imp, forall_eq, VT.cells, szL]; try decide) ?_
  rw [Try.ntmps164]
  simp only [push_cast, ↓brB_true, ↓brB_false, ↓reduceIte, zA, zB, zC, zD, zE, zF, zG, zH, zI, reduceCtorEq]
  refine awp_seq' fun K hK => ?_
  refine awp_region tyOk tyPos [] rfl ?_
  all_goals simp only [push_cast, ↓brB_true, ↓brB_false, ↓reduceIte, zA, zB, zC, zD, zE, zF, zG, zH, zI, reduceCtorEq]
  all_goals repeat' (first | (apply brB_mk <;> (intro hg; (try simp only [push_cast] at hg))) | apply And.intro | (intro hg; (try simp only [push_cast] at hg)))
  all_goals first | exact gA | (exact getE_dII (by omega)) | skip
  all_goals first | (refine hK _ ?_; clear hK K) | (simp only [push_cast]; done)
  refine awp_seq' fun K hK => ?_
  refine awp_region tyOk tyPos [] rfl ?_
  all_goals simp only [push_cast, ↓brB_true, ↓brB_false, ↓reduceIte, zA, zB, zC, zD, zE, zF, zG, zH, zI, reduceCtorEq]
  all_goals repeat' (first | (apply brB_mk <;> (intro hg; (try simp only [push_cast] at hg))) | apply And.intro | (intro hg; (try simp only [push_cast] at hg)))
  all_goals first | exact gA | (exact getE_dII (by omega)) | skip
  all_goals first | (refine hK _ ?_; clear hK K) | (simp only [push_cast]; done)
  refine awp_seq' fun K1 hK1 => ?_
  refine awp_seq' fun K hK => ?_
  refine awp_region tyOk tyPos [] rfl ?_
  all_goals simp only [push_cast, ↓brB_true, ↓brB_false, ↓reduceIte, zA, zB, zC, zD, zE, zF, zG, zH, zI, reduceCtorEq]
  all_goals repeat' (first | (apply brB_mk <;> (intro hg; (try simp only [push_cast] at hg))) | apply And.intro | (intro hg; (try simp only [push_cast] at hg)))
  all_goals first | exact gA | (exact getE_dII (by omega)) | skip
  all_goals first | (refine hK _ ?_; clear hK K) | (simp only [push_cast]; done)
  refine awp_block ?_
  refine awp_loopU [7,8,9,10,11,12,13,14,15,16,17,18,19,20,21,22,23,24,25,26,27,28,29,30,31,32,33,34,35,36,37,38,39] [] (fun (k : Nat) => [(8, .int .i64 k), (7, .int .i64 (degK x inn v k))]) (fun k => []) (fun k => []) (fun k => k ≤ (gl x.next v).length) (fun k => (gl x.next v).length - k) 0 ?_ (by omega) ?_
  ·
    rw [show degK x inn v 0 = 0 from rfl]
    refine cov_of rfl ?_ ?_ ?_ <;> simp only [covS, covL, push_cast, ↓brB_true, ↓brB_false, ↓reduceIte, zA, zB, zC, zD, zE, zF, zG, zH, zI, reduceCtorEq]
  · rintro k hk KL0 hL0
    simp only [push_cast, ↓brB_true, ↓brB_false, ↓reduceIte, zA, zB, zC, zD, zE, zF, zG, zH, zI, reduceCtorEq]
    refine awp_seq' fun K2 hK2 => ?_
    refine awp_seq' fun K hK => ?_
    refine awp_region tyOk tyPos [] rfl ?_
    all_goals simp only [push_cast, ↓brB_true, ↓brB_false, ↓reduceIte, zA, zB, zC, zD, zE, zF, zG, zH, zI, reduceCtorEq]
    all_goals repeat' (first | (apply brB_mk <;> (intro hg; (try simp only [push_cast] at hg))) | apply And.intro | (intro hg; (try simp only [push_cast] at hg)))
    all_goals first | exact gA | (exact getE_dII (by omega)) | skip
    all_goals first | (refine hK _ ?_; clear hK K) | (simp only [push_cast]; done)
    refine awp_cond rfl (fun hc => ?_) (fun hc => ?_) <;> (try simp only [push_cast] at hc)
    ·
      refine awp_skip ?_
      (try simp only [AThen, ABlk, reduceIte, zF]); refine hK2 _ ?_
      refine awp_seq' fun K3 hK3 => ?_
      refine awp_block ?_
      have hto1 := hto k (by omega)
      have hdk := degK_rg x inn v k
      refine awp_seq' fun K hK => ?_
      refine awp_region tyOk tyPos [] rfl ?_
      all_goals simp only [push_cast, ↓brB_true, ↓brB_false, ↓reduceIte, zA, zB, zC, zD, zE, zF, zG, zH, zI, reduceCtorEq]
      all_goals repeat' (first | (apply brB_mk <;> (intro hg; (try simp only [push_cast] at hg))) | apply And.intro | (intro hg; (try simp only [push_cast] at hg)))
      all_goals first | exact gA | (exact getE_dII (by omega)) | skip
      all_goals first | (refine hK _ ?_; clear hK K) | (simp only [push_cast]; done)
      refine awp_seq' fun K hK => ?_
      refine awp_regionN false tyOk tyPos ?_ rfl ?_
      · kernel_rfl
      all_goals refine seqE_cut 9 fun K9 hK9 => ?_
      all_goals simp only [push_cast, ↓brB_true, ↓brB_false, ↓reduceIte, zA, zB, zC, zD, zE, zF, zG, zH, zI, reduceCtorEq]
      all_goals repeat' (first | (apply brB_mk <;> (intro hg; (try simp only [push_cast] at hg))) | (refine ⟨_, hE (gi (gl x.next v) k), ?_⟩; simp only [push_cast, ↓brB_true, ↓brB_false, ↓reduceIte, zA, zB, zC, zD, zE, zF, zG, zH, zI, reduceCtorEq]) | apply And.intro | (intro hg; (try simp only [push_cast] at hg)))
      all_goals first | exact gA | (exact getE_dII (by omega)) | skip
      all_goals first | (refine hK9 _ ?_; clear hK9 K9) | (simp only [push_cast]; done)
      all_goals simp only [push_cast, ↓brB_true, ↓brB_false, ↓reduceIte, zA, zB, zC, zD, zE, zF, zG, zH, zI, reduceCtorEq]
      all_goals repeat' (first | (apply brB_mk <;> (intro hg; (try simp only [push_cast] at hg))) | (refine ⟨_, hE (gi (gl x.next v) k), ?_⟩; simp only [push_cast, ↓brB_true, ↓brB_false, ↓reduceIte, zA, zB, zC, zD, zE, zF, zG, zH, zI, reduceCtorEq]) | apply And.intro | (intro hg; (try simp only [push_cast] at hg)))
      all_goals first | exact gA | (exact getE_dII (by omega)) | skip
      all_goals first | (refine hK _ ?_; clear hK K) | (simp only [push_cast]; done)
      all_goals refine awp_cond rfl (fun hc => ?_) (fun hc => ?_)
      all_goals (first | (cases hc; done) | skip)
      all_goals (try simp only [push_cast] at hc)
      all_goals first
        | (
            refine awp_skip ?_
            (try simp only [AThen, ABlk, reduceIte, zF]); refine hK3 _ ?_
            refine awp_region tyOk tyPos [] rfl ?_
            all_goals simp only [push_cast, ↓brB_true, ↓brB_false, ↓reduceIte, zA, zB, zC, zD, zE, zF, zG, zH, zI, reduceCtorEq]
            all_goals repeat' (first | (apply brB_mk <;> (intro hg; (try simp only [push_cast] at hg))) | apply And.intro | (intro hg; (try simp only [push_cast] at hg)))
            all_goals first | exact gA | (exact getE_dII (by omega)) | skip
            refine hL0 _ ⟨k + 1, by omega, by omega, ?_⟩
            first | rw [degK_yes (by with_reducible assumption) (by with_reducible assumption)] | rw [degK_no1 (by with_reducible assumption)] | rw [degK_no2 (by with_reducible assumption)]
            refine cov_of rfl ?_ ?_ ?_ <;> simp only [covS, covL, push_cast, ↓brB_true, ↓brB_false, ↓reduceIte, zA, zB, zC, zD, zE, zF, zG, zH, zI, reduceCtorEq]
            done)
        | (
            refine awp_region tyOk tyPos [] rfl ?_
            all_goals simp only [push_cast, ↓brB_true, ↓brB_false, ↓reduceIte, zA, zB, zC, zD, zE, zF, zG, zH, zI, reduceCtorEq]
            all_goals repeat' (first | (apply brB_mk <;> (intro hg; (try simp only [push_cast] at hg))) | apply And.intro | (intro hg; (try simp only [push_cast] at hg)))
            all_goals first | exact gA | (exact getE_dII (by omega)) | skip
            (try simp only [AThen, ABlk, reduceIte, zF]); refine hK3 _ ?_
            refine awp_region tyOk tyPos [] rfl ?_
            all_goals simp only [push_cast, ↓brB_true, ↓brB_false, ↓reduceIte, zA, zB, zC, zD, zE, zF, zG, zH, zI, reduceCtorEq]
            all_goals repeat' (first | (apply brB_mk <;> (intro hg; (try simp only [push_cast] at hg))) | apply And.intro | (intro hg; (try simp only [push_cast] at hg)))
            all_goals first | exact gA | (exact getE_dII (by omega)) | skip
            refine hL0 _ ⟨k + 1, by omega, by omega, ?_⟩
            first | rw [degK_yes (by with_reducible assumption) (by with_reducible assumption)] | rw [degK_no1 (by with_reducible assumption)] | rw [degK_no2 (by with_reducible assumption)]
            refine cov_of rfl ?_ ?_ ?_ <;> simp only [covS, covL, push_cast, ↓brB_true, ↓brB_false, ↓reduceIte, zA, zB, zC, zD, zE, zF, zG, zH, zI, reduceCtorEq]
            done)
    ·
      refine awp_exit ?_
      have hkk : k = (gl x.next v).length := by omega
      subst hkk
      (try simp only [AThen, ABlk, reduceIte, zF]); refine hK1 _ ?_
      refine awp_seq' fun K hK => ?_
      refine awp_region tyOk tyPos [] rfl ?_
      all_goals simp only [push_cast, ↓brB_true, ↓brB_false, ↓reduceIte, zA, zB, zC, zD, zE, zF, zG, zH, zI, reduceCtorEq]
      all_goals repeat' (first | (apply brB_mk <;> (intro hg; (try simp only [push_cast] at hg))) | apply And.intro | (intro hg; (try simp only [push_cast] at hg)))
      all_goals first | exact gA | (exact getE_dII (by omega)) | skip
      all_goals first | (refine hK _ ?_; clear hK K) | (simp only [push_cast]; done)
      refine awp_ret ?_
      (try simp only [AThen, ABlk])
      refine ⟨Or.inl rfl, ?_⟩
      simp only [RetOk, push_cast, ↓brB_true, ↓brB_false, ↓reduceIte, zA, zB, zC, zD, zE, zF, zG, zH, zI, reduceCtorEq]
      all_goals first | rfl | skip
set_option maxRecDepth 20000 in
set_option maxHeartbeats 4000000 in
theorem l7Less_fn (inn out : List Bool) (hn : inn.length ≤ 256) (ho : out.length = inn.length) : Fn Try.prog tyT 161 [.c (.lst 4 (dB inn)), .c (.lst 4 (dB out))] [.c (.lst 4 (dB (lessL inn out)))] := by
  refine Fn_of (fn := Try.f161) (ts := [4]) Try.func161 (by kernel_rfl) rfl rfl (by rw [Try.ntmps161]; exact Nat.le_of_ble_eq_true rfl) rfl (by simp only [szA, List.mem_cons, List.not_mem_nil, or_false, forall_eq_or_imp, forall_eq, VT.cells, szL]; try decide) ?_
  rw [Try.ntmps161]
  simp only [push_cast, ↓brB_true, ↓brB_false, ↓reduceIte, zA, zB, zC, zD, zE, zF, zG, zH, zI, reduceCtorEq]
  refine awp_seq' fun K hK => ?_
  refine awp_region tyOk tyPos [] rfl ?_
  simp only [push_cast, ↓brB_true, ↓brB_false, ↓reduceIte, zA, zB, zC, zD, zE, zF, zG, zH, zI, reduceCtorEq]
  repeat' apply And.intro
  all_goals try exact gB
  all_goals first | (refine hK _ ?_; clear hK K) | (simp only [push_cast]; done)
  refine awp_seq' fun K hK => ?_
  refine awp_region tyOk tyPos [] rfl ?_
  simp only [push_cast, ↓brB_true, ↓brB_false, ↓reduceIte, zA, zB, zC, zD, zE, zF, zG, zH, zI, reduceCtorEq]
  repeat' apply And.intro
  all_goals try exact gB
  all_goals first | (refine hK _ ?_; clear hK K) | (simp only [push_cast]; done)
  refine awp_seq' fun K1 hK1 => ?_
  refine awp_seq' fun K hK => ?_
  refine awp_region tyOk tyPos [] rfl ?_
  simp only [push_cast, ↓brB_true, ↓brB_false, ↓reduceIte, zA, zB, zC, zD, zE, zF, zG, zH, zI, reduceCtorEq]
  repeat' apply And.intro
  all_goals try exact gB
  all_goals first | (refine hK _ ?_; clear hK K) | (simp only [push_cast]; done)
  refine awp_block ?_
  refine awp_loopU [6,10,11,12,13,14,15,16,17,18,19,20,21,22,23,24,25,26,27,28,29] [80] (fun (k : Nat) => [(6, .int .i64 k), (5, .sl 80 [] 0 inn.length 4)]) (fun k => []) (fun k => [(80, ⟨.ex, 4, dB (mkB inn.length (lessB inn out) k), none⟩)]) (fun k => k ≤ inn.length) (fun k => inn.length - k) 0 ?_ (by omega) ?_
  ·
    rw [mkB_0]
    refine cov_of rfl ?_ ?_ ?_ <;> simp only [covS, covL, push_cast, ↓brB_true, ↓brB_false, ↓reduceIte, zA, zB, zC, zD, zE, zF, zG, zH, zI, reduceCtorEq]
  · rintro k hk KL0 hL0
    have hml := mkB_len (f := lessB inn out) hk
    simp only [push_cast, ↓brB_true, ↓brB_false, ↓reduceIte, zA, zB, zC, zD, zE, zF, zG, zH, zI, reduceCtorEq]
    refine awp_seq' fun K2 hK2 => ?_
    refine awp_seq' fun K hK => ?_
    refine awp_region tyOk tyPos [] rfl ?_
    simp only [push_cast, ↓brB_true, ↓brB_false, ↓reduceIte, zA, zB, zC, zD, zE, zF, zG, zH, zI, reduceCtorEq]
    repeat' apply And.intro
    all_goals try exact gB
    all_goals first | (refine hK _ ?_; clear hK K) | (simp only [push_cast]; done)
    refine awp_cond rfl (fun hc => ?_) (fun hc => ?_) <;> (try simp only [push_cast] at hc)
    ·
      refine awp_skip ?_
      (try simp only [AThen, ABlk, reduceIte, zF]); refine hK2 _ ?_
      refine awp_seq' fun K3 hK3 => ?_
      refine awp_block ?_
      refine awp_regionN false tyOk tyPos ?_ rfl ?_
      · kernel_rfl
      all_goals simp only [push_cast, ↓brB_true, ↓brB_false, ↓reduceIte, zA, zB, zC, zD, zE, zF, zG, zH, zI, reduceCtorEq]
      all_goals repeat' (first | (apply brB_mk <;> (intro hg; (try simp only [push_cast] at hg))) | apply And.intro | (intro hg; (try simp only [push_cast] at hg)))
      all_goals try exact gA
      all_goals (
          (try simp only [AThen, ABlk, reduceIte, zF]); refine hK3 _ ?_
          refine awp_region tyOk tyPos [] rfl ?_
          simp only [push_cast, ↓brB_true, ↓brB_false, ↓reduceIte, zA, zB, zC, zD, zE, zF, zG, zH, zI, reduceCtorEq]
          repeat' apply And.intro
          all_goals try exact gB
          refine hL0 _ ⟨k + 1, by omega, by omega, ?_⟩
          first | rw [show (mkB inn.length (lessB inn out) k).set k (!gb out k) = mkB inn.length (lessB inn out) (k + 1) from by rw [← mkB_set (by omega)]; unfold lessB; rw [show gb inn k = true from by with_reducible assumption]; rfl] | rw [show (mkB inn.length (lessB inn out) k).set k false = mkB inn.length (lessB inn out) (k + 1) from by rw [← mkB_set (by omega)]; unfold lessB; rw [show gb inn k = false from by with_reducible assumption]; rfl]
          refine cov_of rfl ?_ ?_ ?_ <;> simp only [covS, covL, push_cast, ↓brB_true, ↓brB_false, ↓reduceIte, zA, zB, zC, zD, zE, zF, zG, zH, zI, reduceCtorEq])
    ·
      refine awp_exit ?_
      have hkk : k = inn.length := by omega
      subst hkk
      (try simp only [AThen, ABlk, reduceIte, zF]); refine hK1 _ ?_
      refine awp_seq' fun K hK => ?_
      refine awp_region tyOk tyPos [] rfl ?_
      simp only [push_cast, ↓brB_true, ↓brB_false, ↓reduceIte, zA, zB, zC, zD, zE, zF, zG, zH, zI, reduceCtorEq]
      repeat' apply And.intro
      all_goals try exact gB
      all_goals first | (refine hK _ ?_; clear hK K) | (simp only [push_cast]; done)
      refine awp_ret ?_
      (try simp only [AThen, ABlk])
      refine ⟨Or.inl rfl, ?_⟩
      simp only [RetOk, push_cast, ↓brB_true, ↓brB_false, ↓reduceIte, zA, zB, zC, zD, zE, zF, zG, zH, zI, reduceCtorEq]
      try rw [mkB_n]
      unfold lessL
      all_goals first | rfl | exact ⟨rfl, by simp⟩ | exact ⟨by simp, rfl⟩ | (simp; done)
set_option maxRecDepth 20000 in
set_option maxHeartbeats 4000000 in
theorem l1MaxZ_fn (x y : Int) : Fn Try.prog tyT 115 [.c (.int .i64 x), .c (.int .i64 y)] [.c (.int .i64 (if y > x then y else x))] := by
  refine Fn_of (fn := Try.f115) (ts := [4]) Try.func115 (by kernel_rfl) rfl rfl (by rw [Try.ntmps115]; exact Nat.le_of_ble_eq_true rfl) rfl (by simp only [szA, List.mem_cons, List.not_mem_nil, or_false, forall_eq_or_imp, forall_eq, VT.cells, szL]; try decide) ?_
  rw [Try.ntmps115]
  simp only [push_cast, ↓brB_true, ↓brB_false, ↓reduceIte, zA, zB, zC, zD, zE, zF, zG, zH, zI, reduceCtorEq]
  refine awp_seq' fun K hK => ?_
  refine awp_region tyOk tyPos [] rfl ?_
  simp only [push_cast, ↓brB_true, ↓brB_false, ↓reduceIte, zA, zB, zC, zD, zE, zF, zG, zH, zI, reduceCtorEq]
  repeat' apply And.intro
  all_goals try exact gB
  all_goals first | (refine hK _ ?_; clear hK K) | (simp only [push_cast]; done)
  refine awp_seq' fun K1 hK1 => ?_
  refine awp_seq' fun K hK => ?_
  refine awp_region tyOk tyPos [] rfl ?_
  simp only [push_cast, ↓brB_true, ↓brB_false, ↓reduceIte, zA, zB, zC, zD, zE, zF, zG, zH, zI, reduceCtorEq]
  repeat' apply And.intro
  all_goals try exact gB
  all_goals first | (refine hK _ ?_; clear hK K) | (simp only [push_cast]; done)
  refine awp_cond rfl (fun hc => ?_) (fun hc => ?_) <;> (try simp only [push_cast] at hc)
  ·
    refine awp_seq' fun K hK => ?_
    refine awp_region tyOk tyPos [] rfl ?_
    simp only [push_cast, ↓brB_true, ↓brB_false, ↓reduceIte, zA, zB, zC, zD, zE, zF, zG, zH, zI, reduceCtorEq]
    repeat' apply And.intro
    all_goals try exact gB
    all_goals first | (refine hK _ ?_; clear hK K) | (simp only [push_cast]; done)
    refine awp_ret ?_
    (try simp only [AThen, ABlk])
    refine ⟨Or.inl rfl, ?_⟩
    simp only [RetOk, push_cast, ↓brB_true, ↓brB_false, ↓reduceIte, zA, zB, zC, zD, zE, zF, zG, zH, zI, reduceCtorEq]
    rw [if_neg (by omega)]
  ·
    refine awp_skip ?_
    (try simp only [AThen, ABlk, reduceIte, zF]); refine hK1 _ ?_
    refine awp_seq' fun K hK => ?_
    refine awp_region tyOk tyPos [] rfl ?_
    simp only [push_cast, ↓brB_true, ↓brB_false, ↓reduceIte, zA, zB, zC, zD, zE, zF, zG, zH, zI, reduceCtorEq]
    repeat' apply And.intro
    all_goals try exact gB
    all_goals first | (refine hK _ ?_; clear hK K) | (simp only [push_cast]; done)
    refine awp_ret ?_
    (try simp only [AThen, ABlk])
    refine ⟨Or.inl rfl, ?_⟩
    simp only [RetOk, push_cast, ↓brB_true, ↓brB_false, ↓reduceIte, zA, zB, zC, zD, zE, zF, zG, zH, zI, reduceCtorEq]
    split <;> omega
set_option maxRecDepth 20000 in
set_option maxHeartbeats 4000000 in
theorem l7Top_fn (x : L7) (n : Nat) (hx : x.Ok n) (inn : List Bool) (hi : inn.length = n) : Fn Try.prog tyT 160 [.agg (dL7 x), .c (.lst 4 (dB inn))] [.c (.int .i64 (topK x inn n))] := by
  have hn1 := hx.hn
  have hn2 := hx.ho
  have hn3 := hx.hp
  have hn4 := hx.hx
  have hn5 := hx.hv
  have hn6 := hx.hk
  have hM := l1MaxZ_fn
  unfold dL7
  refine Fn_of (fn := Try.f160) (ts := [4]) Try.func160 (by kernel_rfl) rfl rfl (by rw [Try.ntmps160]; exact Nat.le_of_ble_eq_true rfl) rfl (by simp only [szA, List.mem_cons, List.not_mem_nil, or_false, forall_eq_or_imp, forall_eq, VT.cells, szL]; try decide) ?_
  rw [Try.ntmps160]
  simp only [push_cast, ↓brB_true, ↓brB_false, ↓reduceIte, zA, zB, zC, zD, zE, zF, zG, zH, zI, reduceCtorEq]
  refine awp_seq' fun K hK => ?_
  refine awp_region tyOk tyPos [] rfl ?_
  simp only [push_cast, ↓brB_true, ↓brB_false, ↓reduceIte, zA, zB, zC, zD, zE, zF, zG, zH, zI, reduceCtorEq]
  repeat' apply And.intro
  all_goals try exact gB
  all_goals first | (refine hK _ ?_; clear hK K) | (simp only [push_cast]; done)
  refine awp_seq' fun K hK => ?_
  refine awp_region tyOk tyPos [] rfl ?_
  simp only [push_cast, ↓brB_true, ↓brB_false, ↓reduceIte, zA, zB, zC, zD, zE, zF, zG, zH, zI, reduceCtorEq]
  repeat' apply And.intro
  all_goals try exact gB
  all_goals first | (refine hK _ ?_; clear hK K) | (simp only [push_cast]; done)
  refine awp_seq' fun K1 hK1 => ?_
  refine awp_seq' fun K hK => ?_
  refine awp_region tyOk tyPos [] rfl ?_
  simp only [push_cast, ↓brB_true, ↓brB_false, ↓reduceIte, zA, zB, zC, zD, zE, zF, zG, zH, zI, reduceCtorEq]
  repeat' apply And.intro
  all_goals try exact gB
  all_goals first | (refine hK _ ?_; clear hK K) | (simp only [push_cast]; done)
  refine awp_block ?_
  refine awp_loopU [5,6,7,8,9,10,11,12,13,14,15,16,17,18,19,20,21,22,23] [] (fun (k : Nat) => [(6, .int .i64 k), (5, .int .i64 (topK x inn k))]) (fun k => []) (fun k => []) (fun k => k ≤ n) (fun k => n - k) 0 ?_ (by omega) ?_
  ·
    rw [show topK x inn 0 = -1 from rfl]
    refine cov_of rfl ?_ ?_ ?_ <;> simp only [covS, covL, push_cast, ↓brB_true, ↓brB_false, ↓reduceIte, zA, zB, zC, zD, zE, zF, zG, zH, zI, reduceCtorEq]
  · rintro k hk KL0 hL0
    simp only [push_cast, ↓brB_true, ↓brB_false, ↓reduceIte, zA, zB, zC, zD, zE, zF, zG, zH, zI, reduceCtorEq]
    refine awp_seq' fun K2 hK2 => ?_
    refine awp_seq' fun K hK => ?_
    refine awp_region tyOk tyPos [] rfl ?_
    simp only [push_cast, ↓brB_true, ↓brB_false, ↓reduceIte, zA, zB, zC, zD, zE, zF, zG, zH, zI, reduceCtorEq]
    repeat' apply And.intro
    all_goals try exact gB
    all_goals first | (refine hK _ ?_; clear hK K) | (simp only [push_cast]; done)
    refine awp_cond rfl (fun hc => ?_) (fun hc => ?_) <;> (try simp only [push_cast] at hc)
    ·
      refine awp_skip ?_
      (try simp only [AThen, ABlk, reduceIte, zF]); refine hK2 _ ?_
      refine awp_seq' fun K3 hK3 => ?_
      refine awp_block ?_
      refine awp_seq' fun K hK => ?_
      refine awp_region tyOk tyPos [] rfl ?_
      simp only [push_cast, ↓brB_true, ↓brB_false, ↓reduceIte, zA, zB, zC, zD, zE, zF, zG, zH, zI, reduceCtorEq]
      repeat' apply And.intro
      all_goals try exact gB
      all_goals first | (refine hK _ ?_; clear hK K) | (simp only [push_cast]; done)
      refine awp_cond rfl (fun hc => ?_) (fun hc => ?_) <;> (try simp only [push_cast] at hc)
      ·
        refine awp_region tyOk tyPos [] rfl ?_
        all_goals refine aops_cut 7 fun K9 hK9 => ?_
        all_goals simp only [push_cast, ↓brB_true, ↓brB_false, ↓reduceIte, zA, zB, zC, zD, zE, zF, zG, zH, zI, reduceCtorEq]
        all_goals repeat' (first | (apply brB_mk <;> (intro hg; (try simp only [push_cast] at hg))) | (refine ⟨_, hM _ _, ?_⟩; simp only [push_cast, ↓brB_true, ↓brB_false, ↓reduceIte, zA, zB, zC, zD, zE, zF, zG, zH, zI, reduceCtorEq]) | apply And.intro | (intro hg; (try simp only [push_cast] at hg)))
        all_goals try exact gA
        all_goals first | (refine hK9 _ ?_; clear hK9 K9) | (simp only [push_cast]; done)
        all_goals simp only [push_cast, ↓brB_true, ↓brB_false, ↓reduceIte, zA, zB, zC, zD, zE, zF, zG, zH, zI, reduceCtorEq]
        all_goals repeat' (first | (apply brB_mk <;> (intro hg; (try simp only [push_cast] at hg))) | (refine ⟨_, hM _ _, ?_⟩; simp only [push_cast, ↓brB_true, ↓brB_false, ↓reduceIte, zA, zB, zC, zD, zE, zF, zG, zH, zI, reduceCtorEq]) | apply And.intro | (intro hg; (try simp only [push_cast] at hg)))
        all_goals try exact gA
        (try simp only [AThen, ABlk, reduceIte, zF]); refine hK3 _ ?_
        refine awp_region tyOk tyPos [] rfl ?_
        simp only [push_cast, ↓brB_true, ↓brB_false, ↓reduceIte, zA, zB, zC, zD, zE, zF, zG, zH, zI, reduceCtorEq]
        repeat' apply And.intro
        all_goals try exact gB
        refine hL0 _ ⟨k + 1, by omega, by omega, ?_⟩
        first | rw [topK_yes (by with_reducible assumption)] | rw [topK_no (by with_reducible assumption)]
        refine cov_of rfl ?_ ?_ ?_ <;> simp only [covS, covL, push_cast, ↓brB_true, ↓brB_false, ↓reduceIte, zA, zB, zC, zD, zE, zF, zG, zH, zI, reduceCtorEq]
      ·
        refine awp_skip ?_
        (try simp only [AThen, ABlk, reduceIte, zF]); refine hK3 _ ?_
        refine awp_region tyOk tyPos [] rfl ?_
        simp only [push_cast, ↓brB_true, ↓brB_false, ↓reduceIte, zA, zB, zC, zD, zE, zF, zG, zH, zI, reduceCtorEq]
        repeat' apply And.intro
        all_goals try exact gB
        refine hL0 _ ⟨k + 1, by omega, by omega, ?_⟩
        first | rw [topK_yes (by with_reducible assumption)] | rw [topK_no (by with_reducible assumption)]
        refine cov_of rfl ?_ ?_ ?_ <;> simp only [covS, covL, push_cast, ↓brB_true, ↓brB_false, ↓reduceIte, zA, zB, zC, zD, zE, zF, zG, zH, zI, reduceCtorEq]
    ·
      refine awp_exit ?_
      have hkk : k = n := by omega
      subst hkk
      (try simp only [AThen, ABlk, reduceIte, zF]); refine hK1 _ ?_
      refine awp_seq' fun K hK => ?_
      refine awp_region tyOk tyPos [] rfl ?_
      simp only [push_cast, ↓brB_true, ↓brB_false, ↓reduceIte, zA, zB, zC, zD, zE, zF, zG, zH, zI, reduceCtorEq]
      repeat' apply And.intro
      all_goals try exact gB
      all_goals first | (refine hK _ ?_; clear hK K) | (simp only [push_cast]; done)
      refine awp_ret ?_
      (try simp only [AThen, ABlk])
      refine ⟨Or.inl rfl, ?_⟩
      simp only [RetOk, push_cast, ↓brB_true, ↓brB_false, ↓reduceIte, zA, zB, zC, zD, zE, zF, zG, zH, zI, reduceCtorEq]
      all_goals first | rfl | skip
set_option maxRecDepth 20000 in
set_option maxHeartbeats 4000000 in
theorem l7All_fn (n : Nat) (hn : n ≤ 256) : Fn Try.prog tyT 148 [.c (.int .i64 n)] [.c (.lst 4 (dB (List.replicate n true)))] := by
  refine Fn_of (fn := Try.f148) (ts := [2]) Try.func148 (by kernel_rfl) rfl rfl (by rw [Try.ntmps148]; exact Nat.le_of_ble_eq_true rfl) rfl (by simp only [szA, List.mem_cons, List.not_mem_nil, or_false, forall_eq_or_imp, forall_eq, VT.cells, szL]; try decide) ?_
  rw [Try.ntmps148]
  simp only [push_cast, ↓brB_true, ↓brB_false, ↓reduceIte, zA, zB, zC, zD, zE, zF, zG, zH, zI, reduceCtorEq]
  refine awp_seq' fun K hK => ?_
  refine awp_region tyOk tyPos [] rfl ?_
  simp only [push_cast, ↓brB_true, ↓brB_false, ↓reduceIte, zA, zB, zC, zD, zE, zF, zG, zH, zI, reduceCtorEq]
  repeat' apply And.intro
  all_goals try exact gB
  all_goals first | (refine hK _ ?_; clear hK K) | (simp only [push_cast]; done)
  refine awp_seq' fun K hK => ?_
  refine awp_region tyOk tyPos [] rfl ?_
  simp only [push_cast, ↓brB_true, ↓brB_false, ↓reduceIte, zA, zB, zC, zD, zE, zF, zG, zH, zI, reduceCtorEq]
  repeat' apply And.intro
  all_goals try exact gB
  all_goals first | (refine hK _ ?_; clear hK K) | (simp only [push_cast]; done)
  refine awp_seq' fun K1 hK1 => ?_
  refine awp_seq' fun K hK => ?_
  refine awp_region tyOk tyPos [] rfl ?_
  simp only [push_cast, ↓brB_true, ↓brB_false, ↓reduceIte, zA, zB, zC, zD, zE, zF, zG, zH, zI, reduceCtorEq]
  repeat' apply And.intro
  all_goals try exact gB
  all_goals first | (refine hK _ ?_; clear hK K) | (simp only [push_cast]; done)
  refine awp_block ?_
  refine awp_loopU [4,7,8,9,10,11,12,13,14] [48] (fun (k : Nat) => [(4, .int .i64 k), (3, .sl 48 [] 0 n 4)]) (fun k => []) (fun k => [(48, ⟨.ex, 4, dB (mkB n (fun _ => true) k), none⟩)]) (fun k => k ≤ n) (fun k => n - k) 0 ?_ (by omega) ?_
  ·
    rw [mkB_0]
    refine cov_of rfl ?_ ?_ ?_ <;> simp only [covS, covL, push_cast, ↓brB_true, ↓brB_false, ↓reduceIte, zA, zB, zC, zD, zE, zF, zG, zH, zI, reduceCtorEq]
  · rintro k hk KL0 hL0
    have hml := mkB_len (f := fun _ => true) hk
    simp only [push_cast, ↓brB_true, ↓brB_false, ↓reduceIte, zA, zB, zC, zD, zE, zF, zG, zH, zI, reduceCtorEq]
    refine awp_seq' fun K2 hK2 => ?_
    refine awp_seq' fun K hK => ?_
    refine awp_region tyOk tyPos [] rfl ?_
    simp only [push_cast, ↓brB_true, ↓brB_false, ↓reduceIte, zA, zB, zC, zD, zE, zF, zG, zH, zI, reduceCtorEq]
    repeat' apply And.intro
    all_goals try exact gB
    all_goals first | (refine hK _ ?_; clear hK K) | (simp only [push_cast]; done)
    refine awp_cond rfl (fun hc => ?_) (fun hc => ?_) <;> (try simp only [push_cast] at hc)
    ·
      refine awp_skip ?_
      (try simp only [AThen, ABlk, reduceIte, zF]); refine hK2 _ ?_
      refine awp_seq' fun K3 hK3 => ?_
      refine awp_block ?_
      refine awp_region tyOk tyPos [] rfl ?_
      simp only [push_cast, ↓brB_true, ↓brB_false, ↓reduceIte, zA, zB, zC, zD, zE, zF, zG, zH, zI, reduceCtorEq]
      repeat' apply And.intro
      all_goals try exact gB
      (try simp only [AThen, ABlk, reduceIte, zF]); refine hK3 _ ?_
      refine awp_region tyOk tyPos [] rfl ?_
      simp only [push_cast, ↓brB_true, ↓brB_false, ↓reduceIte, zA, zB, zC, zD, zE, zF, zG, zH, zI, reduceCtorEq]
      repeat' apply And.intro
      all_goals try exact gB
      refine hL0 _ ⟨k + 1, by omega, by omega, ?_⟩
      rw [show (mkB n (fun _ => true) k).set k true = mkB n (fun _ => true) (k + 1) from mkB_set (by omega)]
      refine cov_of rfl ?_ ?_ ?_ <;> simp only [covS, covL, push_cast, ↓brB_true, ↓brB_false, ↓reduceIte, zA, zB, zC, zD, zE, zF, zG, zH, zI, reduceCtorEq]
    ·
      refine awp_exit ?_
      have hkk : k = n := by omega
      subst hkk
      (try simp only [AThen, ABlk, reduceIte, zF]); refine hK1 _ ?_
      refine awp_seq' fun K hK => ?_
      refine awp_region tyOk tyPos [] rfl ?_
      simp only [push_cast, ↓brB_true, ↓brB_false, ↓reduceIte, zA, zB, zC, zD, zE, zF, zG, zH, zI, reduceCtorEq]
      repeat' apply And.intro
      all_goals try exact gB
      all_goals first | (refine hK _ ?_; clear hK K) | (simp only [push_cast]; done)
      refine awp_ret ?_
      (try simp only [AThen, ABlk])
      refine ⟨Or.inl rfl, ?_⟩
      simp only [RetOk, push_cast, ↓brB_true, ↓brB_false, ↓reduceIte, zA, zB, zC, zD, zE, zF, zG, zH, zI, reduceCtorEq]
      rw [mkB_n, show (List.range k).map (fun _ => true) = List.replicate k true from by rw [List.map_const', List.length_range]]
      all_goals first | rfl | exact ⟨rfl, by simp⟩ | (simp; done)
end Go.Proofs.Ytdbecmmeifdafaa

namespace Go.Proofs.Ytdbecmmeifdafaa
open Go.RowKit
set_option linter.unusedVariables false
set_option linter.unusedSimpArgs false

def pgL (x : L7) : PG := ⟨fun v => if v < x.owner.length then gi x.owner v else 0, fun v => (gi x.prio v).toNat, fun v u => v < x.owner.length ∧ ∃ j, j < (gl x.next v).length ∧ (gi (gl x.next v) j).toNat = u ∧ edB x v (gi (gl x.next v) j) = true⟩
def inD (n : Nat) (inn : List Bool) (v : Nat) : Prop := v < n ∧ gb inn v = true
section
variable {x : L7} {n : Nat}
theorem pgL_own (hx : x.Ok n) {v : Nat} (hv : v < n) : (pgL x).own v = gi x.owner v := if_pos (by rw [hx.ho]; exact hv)
theorem pgL_own2 (hx : x.Ok n) (v : Nat) : (pgL x).own v = 0 ∨ (pgL x).own v = 1 := by
  by_cases h : v < n
  · rw [pgL_own hx h]; exact hx.ow v h
  · exact .inl (if_neg (by rw [hx.ho]; exact h))
theorem pgL_E (hx : x.Ok n) {v : Nat} (hv : v < n) {u : Int} (hu : 0 ≤ u) : (pgL x).E v u.toNat ↔ (∃ j, j < (gl x.next v).length ∧ gi (gl x.next v) j = u) ∧ edB x v u = true := by
  constructor
  · rintro ⟨-, j, hj, e, h⟩
    have := (hx.to v hv j hj).1
    have e2 : gi (gl x.next v) j = u := by omega
    rw [e2] at h
    exact ⟨⟨j, hj, e2⟩, h⟩
  · rintro ⟨⟨j, hj, e⟩, h⟩
    exact ⟨by rw [hx.ho]; exact hv, j, hj, by rw [e], by rw [e]; exact h⟩
theorem pgL_n (hx : x.Ok n) (v u : Nat) (h : (pgL x).E v u) : u < n := by
  obtain ⟨h1, j, hj, e, -⟩ := h
  have := hx.to v (by rw [← hx.ho]; exact h1) j hj
  omega
def degP (x : L7) (inn : List Bool) (v : Nat) (p : Int → Bool) : Nat → Int
  | 0 => 0
  | k + 1 => if gb inn (gi (gl x.next v) k).toNat && edB x v (gi (gl x.next v) k) && !p (gi (gl x.next v) k) then degP x inn v p k + 1 else degP x inn v p k
theorem degP_none (x : L7) (inn : List Bool) (v : Nat) {p : Int → Bool} : ∀ k, (∀ j, j < k → p (gi (gl x.next v) j) = false) → degP x inn v p k = degK x inn v k
  | 0, _ => rfl
  | k + 1, h => by
    unfold degP degK
    rw [degP_none x inn v k fun j hj => h j (by omega), h k (by omega), Bool.not_false, Bool.and_true]
theorem degP_cong (x : L7) (inn : List Bool) (v : Nat) {p q : Int → Bool} : ∀ k, (∀ j, j < k → gb inn (gi (gl x.next v) j).toNat = true → edB x v (gi (gl x.next v) j) = true → p (gi (gl x.next v) j) = q (gi (gl x.next v) j)) → degP x inn v p k = degP x inn v q k
  | 0, _ => rfl
  | k + 1, h => by
    unfold degP
    rw [degP_cong x inn v k fun j hj => h j (by omega)]
    by_cases h1 : gb inn (gi (gl x.next v) k).toNat = true
    · by_cases h2 : edB x v (gi (gl x.next v) k) = true
      · rw [h k (by omega) h1 h2]
      · have h3 : edB x v (gi (gl x.next v) k) = false := by simpa using h2
        rw [h3, Bool.and_false, Bool.false_and, Bool.false_and]
    · have h3 : gb inn (gi (gl x.next v) k).toNat = false := by simpa using h1
      rw [h3, Bool.false_and, Bool.false_and, Bool.false_and]
theorem degP_one (x : L7) (inn : List Bool) (v : Nat) {p q : Int → Bool} {u : Int} (hp : p u = false) (hq : q u = true) (hu : gb inn u.toNat = true) (he : edB x v u = true) : ∀ k, (∀ j, j < k → gi (gl x.next v) j ≠ u → p (gi (gl x.next v) j) = q (gi (gl x.next v) j)) →
    (∀ i j, i < j → j < k → gi (gl x.next v) i ≠ gi (gl x.next v) j) → (∃ j, j < k ∧ gi (gl x.next v) j = u) → degP x inn v q k = degP x inn v p k - 1
  | 0, _, _, h => by obtain ⟨j, hj, -⟩ := h; omega
  | k + 1, h, hd, hex => by
    obtain ⟨j, hj, e⟩ := hex
    by_cases hk : gi (gl x.next v) k = u
    · have h1 : degP x inn v q k = degP x inn v p k := (degP_cong x inn v k fun j' hj' _ _ => h j' (by omega) (fun e' => hd j' k hj' (by omega) (e'.trans hk.symm))).symm
      unfold degP
      rw [hk, hp, hq, hu, he, h1]
      simp
    · have hjk : j ≠ k := fun e2 => hk (by rw [← e2]; exact e)
      have ih := degP_one x inn v hp hq hu he k (fun j' hj' => h j' (by omega)) (fun a b h1 h2 => hd a b h1 (by omega)) ⟨j, by omega, e⟩
      unfold degP
      rw [h k (by omega) hk, ih]
      split <;> omega
theorem degP_nn (x : L7) (inn : List Bool) (v : Nat) (p : Int → Bool) : ∀ k, 0 ≤ degP x inn v p k ∧ degP x inn v p k ≤ k
  | 0 => ⟨Int.le_refl _, Int.le_refl _⟩
  | k + 1 => by
    have := degP_nn x inn v p k
    unfold degP
    split <;> omega
theorem degP_zero (x : L7) (inn : List Bool) (v : Nat) (p : Int → Bool) : ∀ k, degP x inn v p k = 0 → ∀ j, j < k → gb inn (gi (gl x.next v) j).toNat = true → edB x v (gi (gl x.next v) j) = true → p (gi (gl x.next v) j) = true
  | 0, _, j, hj, _, _ => by omega
  | k + 1, h, j, hj, h1, h2 => by
    have hn := degP_nn x inn v p k
    unfold degP at h
    split at h
    · omega
    · rename_i hc
      by_cases e : j = k
      · rw [e] at h1 h2 ⊢
        rw [h1, h2] at hc
        simpa using hc
      · exact degP_zero x inn v p k h j (by omega) h1 h2
structure AtI (x : L7) (n : Nat) (inn : List Bool) (who : Int) (goal out : List Bool) (left queue : List Int) (P : Nat → Int → Bool) : Prop where
  lo : out.length = n
  ll : left.length = n
  qrg : ∀ i, i < queue.length → 0 ≤ gi queue i ∧ gi queue i < n
  qnd : ∀ i j, i < j → j < queue.length → gi queue i ≠ gi queue j
  qout : ∀ v, v < n → (gb out v = true ↔ ∃ i, i < queue.length ∧ gi queue i = v)
  sound : ∀ v, v < n → gb out v = true → Att (pgL x) who (inD n inn) (fun v => gb goal v = true) v
  base : ∀ v, v < n → gb inn v = true → gb goal v = true → gb out v = true
  own : ∀ v, v < n → gb inn v = true → gb out v = false → gi x.owner v = who → ∀ j, j < (gl x.next v).length → edB x v (gi (gl x.next v) j) = true → gb inn (gi (gl x.next v) j).toNat = true → P v (gi (gl x.next v) j) = false
  opp : ∀ v, v < n → gb inn v = true → gb out v = false → ¬ gi x.owner v = who → (∃ j, j < (gl x.next v).length ∧ edB x v (gi (gl x.next v) j) = true ∧ gb inn (gi (gl x.next v) j).toNat = true ∧ P v (gi (gl x.next v) j) = true) → gi left v ≠ 0
  cnt : ∀ v, v < n → gb inn v = true → gb out v = false → gi left v = degP x inn v (P v) (gl x.next v).length
  psub : ∀ v, v < n → ∀ j, j < (gl x.next v).length → P v (gi (gl x.next v) j) = true → gb out (gi (gl x.next v) j).toNat = true
variable {inn goal out : List Bool} {who : Int} {left queue : List Int} {P Q : Nat → Int → Bool}
theorem AtI.cong (h : AtI x n inn who goal out left queue P) (hPQ : ∀ v, v < n → ∀ j, j < (gl x.next v).length → P v (gi (gl x.next v) j) = Q v (gi (gl x.next v) j)) : AtI x n inn who goal out left queue Q :=
  ⟨h.lo, h.ll, h.qrg, h.qnd, h.qout, h.sound, h.base, fun v hv h1 h2 h3 j hj h4 h5 => by rw [← hPQ v hv j hj]; exact h.own v hv h1 h2 h3 j hj h4 h5,
    fun v hv h1 h2 h3 ⟨j, hj, h4, h5, h6⟩ => h.opp v hv h1 h2 h3 ⟨j, hj, h4, h5, by rw [hPQ v hv j hj]; exact h6⟩,
    fun v hv h1 h2 => by rw [h.cnt v hv h1 h2]; exact degP_cong x inn v _ fun j hj _ _ => hPQ v hv j hj,
    fun v hv j hj h1 => h.psub v hv j hj (by rw [hPQ v hv j hj]; exact h1)⟩
theorem AtI.skip (h : AtI x n inn who goal out left queue P) {v0 : Nat} (hv0 : v0 < n) {u0 : Int} (hu0 : gb out u0.toNat = true) (hs : gb inn v0 = false ∨ gb out v0 = true ∨ edB x v0 u0 = false)
    (hQ : ∀ v u, Q v u = (P v u || (decide (v = v0) && decide (u = u0)))) : AtI x n inn who goal out left queue Q := by
  have key : ∀ v, v < n → gb inn v = true → gb out v = false → ∀ j, j < (gl x.next v).length → edB x v (gi (gl x.next v) j) = true → Q v (gi (gl x.next v) j) = P v (gi (gl x.next v) j) := fun v hv h1 h2 j hj h3 => by
    rw [hQ]
    by_cases e : v = v0 ∧ gi (gl x.next v) j = u0
    · exfalso
      obtain ⟨rfl, e2⟩ := e
      rw [e2] at h3
      rcases hs with h | h | h
      · rw [h] at h1; cases h1
      · rw [h] at h2; cases h2
      · rw [h] at h3; cases h3
    · have : (decide (v = v0) && decide (gi (gl x.next v) j = u0)) = false := by
        rw [Bool.and_eq_false_iff, decide_eq_false_iff_not, decide_eq_false_iff_not]
        omega
      rw [this, Bool.or_false]
  refine ⟨h.lo, h.ll, h.qrg, h.qnd, h.qout, h.sound, h.base, fun v hv h1 h2 h3 j hj h4 h5 => by rw [key v hv h1 h2 j hj h4]; exact h.own v hv h1 h2 h3 j hj h4 h5,
    fun v hv h1 h2 h3 ⟨j, hj, h4, h5, h6⟩ => h.opp v hv h1 h2 h3 ⟨j, hj, h4, h5, by rw [← key v hv h1 h2 j hj h4]; exact h6⟩,
    fun v hv h1 h2 => by rw [h.cnt v hv h1 h2]; exact degP_cong x inn v _ fun j hj _ h4 => (key v hv h1 h2 j hj h4).symm,
    fun v hv j hj h1 => ?_⟩
  rw [hQ, Bool.or_eq_true, Bool.and_eq_true, decide_eq_true_eq, decide_eq_true_eq] at h1
  rcases h1 with h1 | ⟨-, h1⟩
  · exact h.psub v hv j hj h1
  · rw [h1]; exact hu0
theorem gi_setI {c : List Int} {v u : Nat} {y : Int} (hv : v < c.length) : gi (c.set v y) u = if u = v then y else gi c u := by
  unfold gi
  rw [List.getD_eq_getElem?_getD, List.getElem?_set]
  split
  · rename_i h; subst h; simp [hv]
  · rename_i h; rw [if_neg (by omega), List.getD_eq_getElem?_getD]
theorem gb_setB {c : List Bool} {v u : Nat} {y : Bool} (hv : v < c.length) : gb (c.set v y) u = if u = v then y else gb c u := by
  unfold gb
  rw [List.getD_eq_getElem?_getD, List.getElem?_set]
  split
  · rename_i h; subst h; simp [hv]
  · rename_i h; rw [if_neg (by omega), List.getD_eq_getElem?_getD]
theorem AtI.step (hx : x.Ok n) (h : AtI x n inn who goal out left queue P) {v0 : Nat} (hv0 : v0 < n) {u0 : Int} (hu : 0 ≤ u0 ∧ u0 < n) (hu0 : gb out u0.toNat = true) (hui : gb inn u0.toNat = true) (h1 : gb inn v0 = true) (h2 : gb out v0 = false) (h3 : edB x v0 u0 = true)
    (hj : ∃ j, j < (gl x.next v0).length ∧ gi (gl x.next v0) j = u0) (hP : P v0 u0 = false) (hQ : ∀ v u, Q v u = (P v u || (decide (v = v0) && decide (u = u0)))) :
    (¬ (gi x.owner v0 = who ∨ gi left v0 - 1 = 0) → AtI x n inn who goal out (left.set v0 (gi left v0 - 1)) queue Q) ∧
    ((gi x.owner v0 = who ∨ gi left v0 - 1 = 0) → AtI x n inn who goal (out.set v0 true) (left.set v0 (gi left v0 - 1)) (queue ++ [(v0 : Int)]) Q) := by
  have hother : ∀ v, v ≠ v0 → ∀ u, Q v u = P v u := fun v hv u => by rw [hQ, decide_eq_false hv, Bool.false_and, Bool.or_false]
  have hQ1 : Q v0 u0 = true := by rw [hQ]; simp
  have hQ2 : ∀ u, u ≠ u0 → Q v0 u = P v0 u := fun u hu => by rw [hQ, decide_eq_false hu, Bool.and_false, Bool.or_false]
  have hcount : degP x inn v0 (Q v0) (gl x.next v0).length = gi left v0 - 1 := by
    rw [h.cnt v0 hv0 h1 h2]
    exact degP_one x inn v0 hP hQ1 hui h3 _ (fun j hj hne => (hQ2 _ hne).symm) (fun i j a b => hx.nd v0 hv0 i j a b) hj
  have hps : ∀ v, v < n → ∀ j, j < (gl x.next v).length → Q v (gi (gl x.next v) j) = true → gb out (gi (gl x.next v) j).toNat = true := fun v hv j hj h5 => by
    rw [hQ, Bool.or_eq_true, Bool.and_eq_true, decide_eq_true_eq, decide_eq_true_eq] at h5
    rcases h5 with h5 | ⟨-, h5⟩
    · exact h.psub v hv j hj h5
    · rw [h5]; exact hu0
  have hll : v0 < left.length := by rw [h.ll]; exact hv0
  have hlo : v0 < out.length := by rw [h.lo]; exact hv0
  constructor
  · intro hno
    refine ⟨h.lo, by rw [List.length_set]; exact h.ll, h.qrg, h.qnd, h.qout, h.sound, h.base, fun v hv a b c j hj' d e => ?_, fun v hv a b c hex => ?_, fun v hv a b => ?_, hps⟩
    · by_cases ev : v = v0
      · exfalso; rw [ev] at c; exact hno (.inl c)
      · rw [hother v ev]; exact h.own v hv a b c j hj' d e
    · rw [gi_setI hll]
      split
      · exact fun e => hno (.inr e)
      · rename_i ev
        obtain ⟨j, hj', d, e, f⟩ := hex
        exact h.opp v hv a b c ⟨j, hj', d, e, by rw [← hother v ev]; exact f⟩
    · rw [gi_setI hll]
      split
      · rename_i ev; rw [ev]; exact hcount.symm
      · rename_i ev
        rw [h.cnt v hv a b]
        exact degP_cong x inn v _ fun j _ _ _ => (hother v ev _).symm
  · intro hyes
    have hnew : ∀ i, i < queue.length → gi queue i ≠ (v0 : Int) := fun i hi e => by
      have := (h.qout v0 hv0).2 ⟨i, hi, e⟩
      rw [this] at h2; cases h2
    have hql : (queue ++ [(v0 : Int)]).length = queue.length + 1 := by simp
    have hqs : ∀ j, j < queue.length + 1 → gi (queue ++ [(v0 : Int)]) j = if j = queue.length then (v0 : Int) else gi queue j := fun j hj => by
      split
      · rename_i e; rw [e]; unfold gi; rw [List.getD_eq_getElem?_getD, List.getElem?_append_right (Nat.le_refl _)]; simp
      · unfold gi; rw [List.getD_eq_getElem?_getD, List.getElem?_append_left (by omega), List.getD_eq_getElem?_getD]
    have hup : ∀ v, gb out v = true → gb (out.set v0 true) v = true := fun v hv => by
      rw [gb_setB hlo]
      split
      · rfl
      · exact hv
    have hdown : ∀ v, gb (out.set v0 true) v = false → v ≠ v0 ∧ gb out v = false := fun v hv => by
      rw [gb_setB hlo] at hv
      split at hv
      · cases hv
      · rename_i e; exact ⟨e, hv⟩
    refine ⟨by rw [List.length_set]; exact h.lo, by rw [List.length_set]; exact h.ll, fun i hi => ?_, fun i j hij hj' => ?_, fun v hv => ?_, fun v hv hb => ?_, fun v hv a b => hup v (h.base v hv a b), fun v hv a b c j hj' d e => ?_, fun v hv a b c hex => ?_, fun v hv a b => ?_, fun v hv j hj' h5 => hup _ (hps v hv j hj' h5)⟩
    · rw [hql] at hi
      rw [hqs i hi]
      split
      · omega
      · exact h.qrg i (by omega)
    · rw [hql] at hj'
      rw [hqs i (by omega), hqs j hj', if_neg (by omega)]
      split
      · exact hnew i (by omega)
      · exact h.qnd i j hij (by omega)
    · rw [gb_setB hlo, hql]
      constructor
      · intro hb
        split at hb
        · rename_i e; exact ⟨queue.length, by omega, by rw [hqs _ (by omega), if_pos rfl, e]⟩
        · obtain ⟨i, hi, e⟩ := (h.qout v hv).1 hb
          exact ⟨i, by omega, by rw [hqs i (by omega), if_neg (by omega)]; exact e⟩
      · rintro ⟨i, hi, e⟩
        rw [hqs i hi] at e
        split at e
        · rw [if_pos (by omega)]
        · split
          · rfl
          · exact (h.qout v hv).2 ⟨i, by omega, e⟩
    · rw [gb_setB hlo] at hb
      split at hb
      · rename_i e
        subst e
        have hE : (pgL x).E v u0.toNat := (pgL_E hx hv hu.1).2 ⟨hj, h3⟩
        have hAu := h.sound u0.toNat (by omega) hu0
        by_cases ho : gi x.owner v = who
        · exact Att.own ⟨hv, h1⟩ (by rw [pgL_own hx hv]; exact ho) hE hAu
        · have hz : degP x inn v (Q v) (gl x.next v).length = 0 := by rw [hcount]; exact hyes.resolve_left ho
          refine Att.opp (fun a b => pgL_n hx a b) ⟨hv, h1⟩ (by rw [pgL_own hx hv]; exact ho) ⟨_, hE, by omega, hui⟩ fun u he hd => ?_
          obtain ⟨-, j, hj', e1, e2⟩ := he
          have hq := degP_zero x inn v (Q v) _ hz j hj' (by rw [e1]; exact hd.2) e2
          have := hps v hv j hj' hq
          rw [e1] at this
          exact h.sound u hd.1 this
      · exact h.sound v hv hb
    · obtain ⟨b1, b2⟩ := hdown v b
      rw [hother v b1]; exact h.own v hv a b2 c j hj' d e
    · obtain ⟨b1, b2⟩ := hdown v b
      rw [gi_setI hll, if_neg b1]
      obtain ⟨j, hj', d, e, f⟩ := hex
      exact h.opp v hv a b2 c ⟨j, hj', d, e, by rw [← hother v b1]; exact f⟩
    · obtain ⟨b1, b2⟩ := hdown v b
      rw [gi_setI hll, if_neg b1, h.cnt v hv a b2]
      exact degP_cong x inn v _ fun j _ _ _ => (hother v b1 _).symm
theorem AtI.done (hx : x.Ok n) (h : AtI x n inn who goal out left queue P) (hP : ∀ v, v < n → ∀ j, j < (gl x.next v).length → gb out (gi (gl x.next v) j).toNat = true → P v (gi (gl x.next v) j) = true) {v : Nat} (hv : v < n) : gb out v = true ↔ Att (pgL x) who (inD n inn) (fun v => gb goal v = true) v := by
  refine ⟨h.sound v hv, fun ⟨k, hk⟩ => ?_⟩
  have key : ∀ k v, v < n → AttK (pgL x) who (inD n inn) (fun v => gb goal v = true) k v → gb out v = true := by
    intro k
    induction k with
    | zero => exact fun v hv hk => h.base v hv hk.1.2 hk.2
    | succ k ih =>
      intro v hv hk
      rcases hk with hk | ⟨hD, hk⟩
      · exact ih v hv hk
      · cases hb : gb out v
        · exfalso
          rcases hk with ⟨ho, u, he, hu⟩ | ⟨ho, ⟨u, he, hud⟩, ha⟩
          · have hun := pgL_n hx v u he
            have hub := ih u hun hu
            have huD := hu.inD
            obtain ⟨-, j, hj, e1, e2⟩ := he
            rw [pgL_own hx hv] at ho
            have h6 := h.own v hv hD.2 hb ho j hj e2 (by rw [e1]; exact huD.2)
            have h7 := hP v hv j hj (by rw [e1]; exact hub)
            rw [h6] at h7; cases h7
          · rw [pgL_own hx hv] at ho
            have hz : degP x inn v (P v) (gl x.next v).length = 0 := by
              have hall : ∀ j, j < (gl x.next v).length → gb inn (gi (gl x.next v) j).toNat = true → edB x v (gi (gl x.next v) j) = true → P v (gi (gl x.next v) j) = true := fun j hj a b => by
                have hto := hx.to v hv j hj
                have hE : (pgL x).E v (gi (gl x.next v) j).toNat := ⟨by rw [hx.ho]; exact hv, j, hj, rfl, b⟩
                exact hP v hv j hj (ih _ (by omega) (ha _ hE ⟨by omega, a⟩))
              have : ∀ m, m ≤ (gl x.next v).length → degP x inn v (P v) m = 0 := by
                intro m
                induction m with
                | zero => intro _; rfl
                | succ m ihm =>
                  intro hm
                  unfold degP
                  rw [ihm (by omega), if_neg]
                  intro hc
                  simp only [Bool.and_eq_true, Bool.not_eq_true'] at hc
                  have := hall m (by omega) hc.1.1 hc.1.2
                  rw [this] at hc
                  cases hc.2
              exact this _ (Nat.le_refl _)
            have hc := h.cnt v hv hD.2 hb
            rw [hz] at hc
            obtain ⟨-, j, hj, e1, e2⟩ := he
            have hE : (pgL x).E v u := ⟨by rw [hx.ho]; exact hv, j, hj, e1, e2⟩
            have hub := ih u hud.1 (ha u hE hud)
            exact h.opp v hv hD.2 hb ho ⟨j, hj, e2, by rw [e1]; exact hud.2, hP v hv j hj (by rw [e1]; exact hub)⟩ hc
        · rfl
  exact key k v hv hk
open Classical in
noncomputable def attB (x : L7) (n : Nat) (inn : List Bool) (who : Int) (goal : List Bool) : List Bool := (List.range n).map fun v => decide (Att (pgL x) who (inD n inn) (fun v => gb goal v = true) v)
theorem attB_len (x : L7) (n : Nat) (inn : List Bool) (who : Int) (goal : List Bool) : (attB x n inn who goal).length = n := by simp [attB]
open Classical in
theorem attB_at {v : Nat} (hv : v < n) : gb (attB x n inn who goal) v = true ↔ Att (pgL x) who (inD n inn) (fun v => gb goal v = true) v := by
  unfold attB
  rw [mkB_at hv]
  exact decide_eq_true_iff
theorem gb_extB {a b : List Bool} (hl : a.length = b.length) (h : ∀ v, v < a.length → gb a v = gb b v) : a = b := by
  refine List.ext_getElem? fun i => ?_
  by_cases hi : i < a.length
  · rw [gb_lt hi, gb_lt (by omega), h i hi]
  · rw [List.getElem?_eq_none (by omega), List.getElem?_eq_none (by omega)]
theorem AtI.result (hx : x.Ok n) (h : AtI x n inn who goal out left queue P) (hP : ∀ v, v < n → ∀ j, j < (gl x.next v).length → gb out (gi (gl x.next v) j).toNat = true → P v (gi (gl x.next v) j) = true) : out = attB x n inn who goal := by
  refine gb_extB (by rw [attB_len]; exact h.lo) fun v hv => ?_
  rw [h.lo] at hv
  rw [Bool.eq_iff_iff, h.done hx hP hv, attB_at hv]
structure At0 (x : L7) (n : Nat) (inn goal : List Bool) (k : Nat) (out : List Bool) (left queue : List Int) : Prop where
  lo : out.length = n
  ll : left.length = n
  lq : queue.length ≤ k
  qrg : ∀ i, i < queue.length → 0 ≤ gi queue i ∧ gi queue i < k
  qnd : ∀ i j, i < j → j < queue.length → gi queue i ≠ gi queue j
  qout : ∀ v, v < n → (gb out v = true ↔ ∃ i, i < queue.length ∧ gi queue i = v)
  outs : ∀ v, v < n → gb out v = (decide (v < k) && (gb inn v && gb goal v))
  lef : ∀ v, v < k → gb inn v = true → gi left v = degL x inn v
theorem At0.start (n : Nat) (inn goal : List Bool) : At0 x n inn goal 0 (List.replicate n false) (List.replicate n 0) [] := by
  have h0 : ∀ v, gb (List.replicate n false) v = false := fun v => by
    unfold gb
    rw [List.getD_eq_getElem?_getD, List.getElem?_replicate]
    split <;> rfl
  refine ⟨by simp, by simp, by simp, fun i hi => (by simp at hi), fun i j _ hj => (by simp at hj), fun v _ => ?_, fun v _ => (by rw [h0]; rfl), fun v hv => (by omega)⟩
  rw [h0]
  exact ⟨fun h => (by cases h), fun ⟨i, hi, _⟩ => (by simp at hi)⟩
theorem At0.inv (hx : x.Ok n) (h : At0 x n inn goal n out left queue) : AtI x n inn who goal out left queue (fun _ _ => false) := by
  refine ⟨h.lo, h.ll, h.qrg, h.qnd, h.qout, fun v hv hb => ?_, fun v hv a b => ?_, fun v hv _ _ _ j _ _ _ => rfl, fun v hv _ _ _ ⟨j, _, _, _, hf⟩ => (by cases hf), fun v hv a b => ?_, fun v hv j hj hf => (by cases hf)⟩
  · rw [h.outs v hv, Bool.and_eq_true, Bool.and_eq_true] at hb
    exact Att.base ⟨hv, hb.2.1⟩ hb.2.2
  · rw [h.outs v hv, decide_eq_true hv, a, b]; rfl
  · rw [h.lef v hv a]
    exact (degP_none x inn v _ fun _ _ => rfl).symm
end
end Go.Proofs.Ytdbecmmeifdafaa

namespace Go.Proofs.Ytdbecmmeifdafaa
open Go.RowKit
set_option linter.unusedVariables false
set_option linter.unusedSimpArgs false

def goalB (x : L7) (inn : List Bool) (top : Int) (v : Nat) : Bool := gb inn v && (gi x.prio v == top)
def lostB (rest low : List Bool) (who : Int) (v : Nat) : Bool := gb rest v && (gb low v != (who == 0))
def anyB (l : List Bool) : Nat → Bool
  | 0 => false
  | k + 1 => anyB l k || gb l k
def winA (inn : List Bool) (who : Int) (v : Nat) : Bool := gb inn v && (who == 0)
def winB (again away : List Bool) (who : Int) (v : Nat) : Bool := gb again v || (gb away v && (who == 1))
def mapB (n : Nat) (f : Nat → Bool) : List Bool := (List.range n).map f
theorem mapB_len (n : Nat) (f : Nat → Bool) : (mapB n f).length = n := by simp [mapB]
theorem mkB_all (n : Nat) (f : Nat → Bool) : mkB n f n = mapB n f := mkB_n n f
theorem mapB_at {n : Nat} {f : Nat → Bool} {v : Nat} (h : v < n) : gb (mapB n f) v = f v := mkB_at h
theorem mkB_last {n : Nat} {f : Nat → Bool} {k : Nat} (h : k < n) : gb (mkB n f (k + 1)) k = gb (mapB n f) k := by
  rw [mapB_at h]
  unfold mkB gb
  rw [List.getD_eq_getElem?_getD, List.getElem?_append_left (by simp), List.getElem?_map, List.getElem?_range (by omega)]
  rfl
theorem goal_yes {x : L7} {inn : List Bool} {top : Int} {k n : Nat} (hk : k < n) (h : gb inn k = true) : (mkB n (goalB x inn top) k).set k (gi x.prio k == top) = mkB n (goalB x inn top) (k + 1) := by
  rw [← mkB_set hk]; unfold goalB; rw [h]; rfl
theorem goal_no {x : L7} {inn : List Bool} {top : Int} {k n : Nat} (hk : k < n) (h : gb inn k = false) : (mkB n (goalB x inn top) k).set k false = mkB n (goalB x inn top) (k + 1) := by
  rw [← mkB_set hk]; unfold goalB; rw [h]; rfl
theorem lost_yes {rest low : List Bool} {who : Int} {k n : Nat} (hk : k < n) (h : gb rest k = true) : (mkB n (lostB rest low who) k).set k (!(gb low k == (who == 0))) = mkB n (lostB rest low who) (k + 1) := by
  rw [← mkB_set hk]; unfold lostB; rw [h]; rfl
theorem lost_no {rest low : List Bool} {who : Int} {k n : Nat} (hk : k < n) (h : gb rest k = false) : (mkB n (lostB rest low who) k).set k false = mkB n (lostB rest low who) (k + 1) := by
  rw [← mkB_set hk]; unfold lostB; rw [h]; rfl
theorem winA_yes {inn : List Bool} {who : Int} {k n : Nat} (hk : k < n) (h : gb inn k = true) : (mkB n (winA inn who) k).set k (who == 0) = mkB n (winA inn who) (k + 1) := by
  rw [← mkB_set hk]; unfold winA; rw [h]; rfl
theorem winA_no {inn : List Bool} {who : Int} {k n : Nat} (hk : k < n) (h : gb inn k = false) : (mkB n (winA inn who) k).set k false = mkB n (winA inn who) (k + 1) := by
  rw [← mkB_set hk]; unfold winA; rw [h]; rfl
theorem winB_1 {again away : List Bool} {who : Int} {k n : Nat} (hk : k < n) (h : gb again k = true) : (mkB n (winB again away who) k).set k true = mkB n (winB again away who) (k + 1) := by
  rw [← mkB_set hk]; unfold winB; rw [h]; rfl
theorem winB_2 {again away : List Bool} {who : Int} {k n : Nat} (hk : k < n) (h : gb again k = false) (h2 : gb away k = true) : (mkB n (winB again away who) k).set k (who == 1) = mkB n (winB again away who) (k + 1) := by
  rw [← mkB_set hk]; unfold winB; rw [h, h2]; rfl
theorem winB_3 {again away : List Bool} {who : Int} {k n : Nat} (hk : k < n) (h : gb again k = false) (h2 : gb away k = false) : (mkB n (winB again away who) k).set k false = mkB n (winB again away who) (k + 1) := by
  rw [← mkB_set hk]; unfold winB; rw [h, h2]; rfl

theorem lessL_len (a b : List Bool) : (lessL a b).length = a.length := by simp [lessL]
theorem lessL_at {a b : List Bool} {v : Nat} (h : v < a.length) : gb (lessL a b) v = (gb a v && !gb b v) := mkB_at h
def cntB (l : List Bool) : Nat → Nat
  | 0 => 0
  | k + 1 => if gb l k then cntB l k + 1 else cntB l k
theorem cntB_s (l : List Bool) (k : Nat) : cntB l (k + 1) = if gb l k = true then cntB l k + 1 else cntB l k := rfl
theorem cntB_le {a b : List Bool} : ∀ k, (∀ v, v < k → gb a v = true → gb b v = true) → cntB a k ≤ cntB b k
  | 0, _ => Nat.le_refl _
  | k + 1, h => by
    have ih := cntB_le k fun v hv => h v (by omega)
    have hk := h k (by omega)
    rw [cntB_s, cntB_s]
    split
    · rename_i e; rw [if_pos (hk e)]; omega
    · split <;> omega
theorem cntB_lt {a b : List Bool} : ∀ k, (∀ v, v < k → gb a v = true → gb b v = true) → (∃ v, v < k ∧ gb a v = false ∧ gb b v = true) → cntB a k < cntB b k
  | 0, _, ⟨v, hv, _⟩ => absurd hv (Nat.not_lt_zero _)
  | k + 1, h, ⟨v, hv, h1, h2⟩ => by
    have hk := h k (by omega)
    have hle := cntB_le k fun v hv => h v (by omega)
    rw [cntB_s, cntB_s]
    by_cases e : v = k
    · subst e; rw [h1, h2]; exact Nat.lt_succ_of_le hle
    · have ih := cntB_lt k (fun v hv => h v (by omega)) ⟨v, by omega, h1, h2⟩
      split
      · rename_i e; rw [if_pos (hk e)]; omega
      · split <;> omega
theorem cntB_top (l : List Bool) : ∀ k, cntB l k ≤ k
  | 0 => Nat.le_refl _
  | k + 1 => by
    have := cntB_top l k
    rw [cntB_s]
    split <;> omega
theorem anyB_iff {l : List Bool} : ∀ {k : Nat}, (anyB l k = true ↔ ∃ v, v < k ∧ gb l v = true)
  | 0 => ⟨fun h => (by cases h), fun ⟨v, h, _⟩ => absurd h (Nat.not_lt_zero _)⟩
  | k + 1 => by
    show (anyB l k || gb l k) = true ↔ _
    rw [Bool.or_eq_true, anyB_iff]
    constructor
    · rintro (⟨v, hv, h⟩ | h)
      · exact ⟨v, by omega, h⟩
      · exact ⟨k, by omega, h⟩
    · rintro ⟨v, hv, h⟩
      by_cases e : v = k
      · subst e; exact .inr h
      · exact .inl ⟨v, by omega, h⟩
noncomputable def winL (x : L7) (n : Nat) : Nat → List Bool → List Bool
  | 0, _ => List.replicate n false
  | f + 1, inn =>
    if topK x inn n < 0 then List.replicate n false else
    if anyB (mapB n (lostB (lessL inn (attB x n inn (Int.tmod (topK x inn n) 2) (mapB n (goalB x inn (topK x inn n))))) (winL x n f (lessL inn (attB x n inn (Int.tmod (topK x inn n) 2) (mapB n (goalB x inn (topK x inn n)))))) (Int.tmod (topK x inn n) 2))) n = true then
      mapB n (winB (winL x n f (lessL inn (attB x n inn (1 - Int.tmod (topK x inn n) 2) (mapB n (lostB (lessL inn (attB x n inn (Int.tmod (topK x inn n) 2) (mapB n (goalB x inn (topK x inn n))))) (winL x n f (lessL inn (attB x n inn (Int.tmod (topK x inn n) 2) (mapB n (goalB x inn (topK x inn n)))))) (Int.tmod (topK x inn n) 2))))))
        (attB x n inn (1 - Int.tmod (topK x inn n) 2) (mapB n (lostB (lessL inn (attB x n inn (Int.tmod (topK x inn n) 2) (mapB n (goalB x inn (topK x inn n))))) (winL x n f (lessL inn (attB x n inn (Int.tmod (topK x inn n) 2) (mapB n (goalB x inn (topK x inn n)))))) (Int.tmod (topK x inn n) 2)))) (Int.tmod (topK x inn n) 2))
    else mapB n (winA inn (Int.tmod (topK x inn n) 2))
theorem winL_s (x : L7) (n f : Nat) (inn : List Bool) {top who : Int} {goal rest low lost away : List Bool} (hT : topK x inn n = top) (hW : Int.tmod top 2 = who) (hG : mapB n (goalB x inn top) = goal) (hR : lessL inn (attB x n inn who goal) = rest) (hLo : winL x n f rest = low) (hL : mapB n (lostB rest low who) = lost) (hA2 : attB x n inn (1 - who) lost = away) :
    winL x n (f + 1) inn = if top < 0 then List.replicate n false else if anyB lost n = true then mapB n (winB (winL x n f (lessL inn away)) away who) else mapB n (winA inn who) := by
  subst hT hW hG hR hLo hL hA2
  rfl
theorem winL_len (x : L7) (n : Nat) : ∀ f inn, (winL x n f inn).length = n
  | 0, inn => by unfold winL; simp
  | f + 1, inn => by
    rw [winL_s x n f inn rfl rfl rfl rfl rfl rfl rfl]
    split
    · simp
    · split <;> exact mapB_len _ _
theorem topK_s (x : L7) (inn : List Bool) (k : Nat) : topK x inn (k + 1) = if gb inn k = true then max (topK x inn k) (gi x.prio k) else topK x inn k := rfl
theorem top_max {x : L7} {inn : List Bool} : ∀ k, ∀ v, v < k → gb inn v = true → gi x.prio v ≤ topK x inn k
  | 0, v, h, _ => absurd h (Nat.not_lt_zero _)
  | k + 1, v, hv, hb => by
    rw [topK_s]
    by_cases e : v = k
    · subst e; rw [if_pos hb]; omega
    · have := top_max (x := x) k v (by omega) hb
      split <;> omega
theorem top_ex {x : L7} {n : Nat} (hx : x.Ok n) {inn : List Bool} : ∀ k, k ≤ n → topK x inn k = -1 ∨ ∃ v, v < k ∧ gb inn v = true ∧ gi x.prio v = topK x inn k
  | 0, _ => .inl rfl
  | k + 1, hk => by
    have ih := top_ex hx (inn := inn) k (by omega)
    have hp := hx.pr k (by omega)
    rw [topK_s]
    by_cases e : gb inn k = true
    · rw [if_pos e]
      rcases Int.le_total (topK x inn k) (gi x.prio k) with h | h
      · exact .inr ⟨k, by omega, e, by omega⟩
      · rcases ih with h2 | ⟨v, hv, h2, h3⟩
        · exact .inr ⟨k, by omega, e, by omega⟩
        · exact .inr ⟨v, by omega, h2, by omega⟩
    · rw [if_neg e]
      rcases ih with h2 | ⟨v, hv, h2, h3⟩
      · exact .inl h2
      · exact .inr ⟨v, by omega, h2, h3⟩
section
variable {x : L7} {n : Nat} {inn : List Bool}
theorem attB_sub {who : Int} {goal : List Bool} {v : Nat} (hv : v < n) (h : gb (attB x n inn who goal) v = true) : gb inn v = true := ((attB_at hv).1 h).inD.2
theorem winL_sub : ∀ f inn, inn.length = n → ∀ v, v < n → gb (winL x n f inn) v = true → gb inn v = true
  | 0, inn, _, v, hv, h => by
    unfold winL at h
    rw [show gb (List.replicate n false) v = false from by unfold gb; rw [List.getD_eq_getElem?_getD, List.getElem?_replicate]; split <;> rfl] at h
    cases h
  | f + 1, inn, hi, v, hv, h => by
    rw [winL_s x n f inn rfl rfl rfl rfl rfl rfl rfl] at h
    split at h
    · rw [show gb (List.replicate n false) v = false from by unfold gb; rw [List.getD_eq_getElem?_getD, List.getElem?_replicate]; split <;> rfl] at h
      cases h
    · split at h
      · rw [mapB_at hv] at h
        unfold winB at h
        rw [Bool.or_eq_true, Bool.and_eq_true] at h
        rcases h with h | h
        · have := winL_sub f _ (by rw [lessL_len]; exact hi) v hv h
          rw [lessL_at (by omega), Bool.and_eq_true] at this
          exact this.1
        · exact attB_sub hv h.1
      · rw [mapB_at hv] at h
        unfold winA at h
        rw [Bool.and_eq_true] at h
        exact h.1
end
theorem att_cong {g : PG} {who : Int} {D goal goal' : Nat → Prop} (h : ∀ v, D v → (goal v ↔ goal' v)) (v : Nat) : Att g who D goal v ↔ Att g who D goal' v := by
  have hk : ∀ k v, AttK g who D goal k v ↔ AttK g who D goal' k v := by
    intro k
    induction k with
    | zero => exact fun v => ⟨fun ⟨a, b⟩ => ⟨a, (h v a).1 b⟩, fun ⟨a, b⟩ => ⟨a, (h v a).2 b⟩⟩
    | succ k ih =>
      have e : AttK g who D goal k = AttK g who D goal' k := funext fun v => propext (ih v)
      intro v
      show (_ ∨ _) ↔ (_ ∨ _)
      rw [e]
  exact ⟨fun ⟨k, a⟩ => ⟨k, (hk k v).1 a⟩, fun ⟨k, a⟩ => ⟨k, (hk k v).2 a⟩⟩
theorem wins_none (g : PG) (who : Int) (D U : Nat → Prop) (h : ∀ v, ¬ U v) : ∃ s, Wins g who D U s :=
  ⟨fun _ => 0, ⟨fun v a => absurd a (h v), fun v a => absurd a (h v), fun v u a => absurd a (h v), fun v t w => by
    cases w with
    | one a => exact absurd a.1 (h v)
    | cons a _ => exact absurd a.1 (h v)⟩⟩
section
variable {x : L7} {n : Nat}
theorem rest_D {inn : List Bool} (hi : inn.length = n) {who : Int} {goal : List Bool} (v : Nat) : inD n (lessL inn (attB x n inn who goal)) v ↔ inD n inn v ∧ ¬ Att (pgL x) who (inD n inn) (fun v => gb goal v = true) v := by
  unfold inD
  constructor
  · rintro ⟨h1, h2⟩
    rw [lessL_at (by omega), Bool.and_eq_true] at h2
    refine ⟨⟨h1, h2.1⟩, fun h => ?_⟩
    rw [(attB_at h1).2 h] at h2
    cases h2.2
  · rintro ⟨⟨h1, h2⟩, h3⟩
    refine ⟨h1, ?_⟩
    rw [lessL_at (by omega), h2, Bool.eq_false_iff.2 fun e => h3 ((attB_at h1).1 e)]
    rfl
theorem rest_lt {inn : List Bool} (hi : inn.length = n) {who : Int} {goal : List Bool} {w : Nat} (hw : w < n) (h1 : gb inn w = true) (h2 : gb goal w = true) : cntB (lessL inn (attB x n inn who goal)) n < cntB inn n := by
  refine cntB_lt n (fun v hv h => ?_) ⟨w, hw, ?_, h1⟩
  · rw [lessL_at (by omega), Bool.and_eq_true] at h; exact h.1
  · rw [lessL_at (by omega), (attB_at hw).2 (.base ⟨hw, h1⟩ h2), h1]; rfl
theorem tmodW {t : Int} (h : 0 ≤ t) : Int.tmod t 2 = t % 2 := Int.tmod_eq_emod_of_nonneg h
theorem winL_ok (hx : x.Ok n) : ∀ f inn, inn.length = n → cntB inn n < f → Live (pgL x) (inD n inn) →
    (∃ s, Wins (pgL x) 0 (inD n inn) (fun v => inD n inn v ∧ gb (winL x n f inn) v = true) s) ∧ ∃ s, Wins (pgL x) 1 (inD n inn) (fun v => inD n inn v ∧ gb (winL x n f inn) v = false) s
  | 0, inn, _, h, _ => absurd h (Nat.not_lt_zero _)
  | f + 1, inn, hi, hc, hl => by
    have hn : ∀ v u, (pgL x).E v u → u < n := pgL_n hx
    obtain ⟨top, hT⟩ : ∃ t, topK x inn n = t := ⟨_, rfl⟩
    obtain ⟨who, hW⟩ : ∃ t, Int.tmod top 2 = t := ⟨_, rfl⟩
    obtain ⟨goal, hG⟩ : ∃ t, mapB n (goalB x inn top) = t := ⟨_, rfl⟩
    obtain ⟨rest, hR⟩ : ∃ t, lessL inn (attB x n inn who goal) = t := ⟨_, rfl⟩
    obtain ⟨low, hLo⟩ : ∃ t, winL x n f rest = t := ⟨_, rfl⟩
    obtain ⟨lost, hL⟩ : ∃ t, mapB n (lostB rest low who) = t := ⟨_, rfl⟩
    obtain ⟨away, hA⟩ : ∃ t, attB x n inn (1 - who) lost = t := ⟨_, rfl⟩
    rw [winL_s x n f inn hT hW hG hR hLo hL hA]
    have hmax := fun v hv hb => top_max (x := x) (inn := inn) n v hv hb
    have hex := top_ex hx (inn := inn) n (Nat.le_refl _)
    rw [hT] at hmax hex
    by_cases ht : top < 0
    · have hno : ∀ v, ¬ inD n inn v := fun v hv => by
        have := hmax v hv.1 hv.2
        have := hx.pr v hv.1
        omega
      exact ⟨wins_none _ _ _ _ fun v h => hno v h.1, wins_none _ _ _ _ fun v h => hno v h.1⟩
    rw [if_neg ht]
    have hw2 : who = 0 ∨ who = 1 := by rw [tmodW (by omega)] at hW; omega
    have hgoal : ∀ v, inD n inn v → (gb goal v = true ↔ (pgL x).pr v = top.toNat) := fun v hv => by
      rw [← hG, mapB_at hv.1]
      unfold goalB
      rw [hv.2, Bool.true_and, beq_iff_eq]
      have := hx.pr v hv.1
      show _ ↔ (gi x.prio v).toNat = top.toNat
      omega
    obtain ⟨w, hw, hw3, hw4⟩ := hex.resolve_left (by omega)
    have hrl : rest.length = n := by rw [← hR, lessL_len]; exact hi
    have hRD : ∀ v, inD n rest v ↔ inD n inn v ∧ ¬ Att (pgL x) who (inD n inn) (fun v => gb goal v = true) v := fun v => by rw [← hR]; exact rest_D hi v
    have hlt : cntB rest n < f := by
      have : cntB rest n < cntB inn n := by
        rw [← hR]
        refine rest_lt hi hw hw3 ((hgoal w ⟨hw, hw3⟩).2 ?_)
        show (gi x.prio w).toNat = _
        rw [hw4]
      omega
    have hlr : Live (pgL x) (inD n rest) := by
      have := live_rest (who := who) (goal := fun v => gb goal v = true) hn hl
      rw [show inD n rest = _ from funext fun v => propext (hRD v)]
      exact this
    have ih := winL_ok hx f rest hrl hlt hlr
    rw [hLo] at ih
    have hlost : ∀ v, v < n → (gb lost v = true ↔ gb rest v = true ∧ (gb low v = true ↔ ¬ who = 0)) := fun v hv => by
      rw [← hL, mapB_at hv]
      unfold lostB
      rw [Bool.and_eq_true]
      rcases hw2 with e | e <;> rw [e] <;> cases gb low v <;> simp
    by_cases ha : anyB lost n = true
    · rw [if_pos ha]
      obtain ⟨a, ha1, ha2⟩ := anyB_iff.1 ha
      obtain ⟨rest2, hR2⟩ : ∃ t, lessL inn away = t := ⟨_, rfl⟩
      obtain ⟨again, hAg⟩ : ∃ t, winL x n f rest2 = t := ⟨_, rfl⟩
      rw [hR2, hAg]
      have hr2l : rest2.length = n := by rw [← hR2, lessL_len]; exact hi
      have hai : gb inn a = true := ((hRD a).1 ⟨ha1, ((hlost a ha1).1 ha2).1⟩).1.2
      have hRD2 : ∀ v, inD n rest2 v ↔ inD n inn v ∧ ¬ Att (pgL x) (1 - who) (inD n inn) (fun v => gb lost v = true) v := fun v => by rw [← hR2, ← hA]; exact rest_D hi v
      have hlt2 : cntB rest2 n < f := by
        have : cntB rest2 n < cntB inn n := by rw [← hR2, ← hA]; exact rest_lt hi ha1 hai ha2
        omega
      have hlr2 : Live (pgL x) (inD n rest2) := by
        have := live_rest (who := 1 - who) (goal := fun v => gb lost v = true) hn hl
        rw [show inD n rest2 = _ from funext fun v => propext (hRD2 v)]
        exact this
      have ih2 := winL_ok hx f rest2 hr2l hlt2 hlr2
      have hsub := fun v hv => winL_sub (x := x) f rest2 hr2l v hv
      rw [hAg] at ih2 hsub
      have haw : ∀ v, v < n → (gb away v = true ↔ Att (pgL x) (1 - who) (inD n inn) (fun v => gb lost v = true) v) := fun v hv => by rw [← hA]; exact attB_at hv
      have hnot : ∀ v, v < n → gb away v = true → gb again v = false := fun v hv h => Bool.eq_false_iff.2 fun e => ((hRD2 v).1 ⟨hv, hsub v hv e⟩).2 ((haw v hv).1 h)
      have hown := pgL_own2 hx
      rcases hw2 with e | e
      · subst e
        have hop : ((1 : Int) - 0) = 1 := rfl
        rw [hop] at hRD2 haw
        obtain ⟨-, ⟨s1, hs1⟩⟩ := ih
        obtain ⟨⟨m0, hm0⟩, ⟨m1, hm1⟩⟩ := ih2
        have hLs : ∀ v, inD n inn v → (gb lost v = true ↔ inD n rest v ∧ gb low v = false) := fun v hv => by
          rw [hlost v hv.1]
          constructor
          · rintro ⟨h1, h2⟩
            exact ⟨⟨hv.1, h1⟩, Bool.eq_false_iff.2 fun h3 => h2.1 h3 rfl⟩
          · rintro ⟨h1, h2⟩
            exact ⟨h1.2, by rw [h2]; simp⟩
        have hatt := fun v => att_cong (g := pgL x) (who := 1) hLs v
        obtain ⟨s', hs'⟩ := zie_opp (who := 0) (opp := 1) hown (by decide) (wins_cong hs1 hRD fun v => Iff.rfl) (wins_cong hm1 (fun v => by rw [hRD2 v, hatt v]) fun v => Iff.rfl)
        have hz := zie_who (who := 0) (opp := 1) hown (wins_cong hm0 hRD2 fun v => Iff.rfl)
        have hres : ∀ v, v < n → gb (mapB n (winB again away 0)) v = gb again v := fun v hv => by
          rw [mapB_at hv]; unfold winB; rw [show ((0 : Int) == 1) = false from rfl, Bool.and_false, Bool.or_false]
        refine ⟨⟨m0, wins_cong hz (fun v => Iff.rfl) fun v => ?_⟩, ⟨s', wins_cong hs' (fun v => Iff.rfl) fun v => ?_⟩⟩
        · constructor
          · rintro ⟨h1, h2⟩
            exact ⟨((hRD2 v).1 h1).1, by rw [hres v h1.1]; exact h2⟩
          · rintro ⟨h1, h2⟩
            rw [hres v h1.1] at h2
            exact ⟨⟨h1.1, hsub v h1.1 h2⟩, h2⟩
        · rw [← hatt v]
          constructor
          · rintro (⟨h1, h2⟩ | h)
            · exact ⟨((hRD2 v).1 h1).1, by rw [hres v h1.1]; exact h2⟩
            · have hv := h.inD
              exact ⟨hv, by rw [hres v hv.1]; exact hnot v hv.1 ((haw v hv.1).2 h)⟩
          · rintro ⟨h1, h2⟩
            rw [hres v h1.1] at h2
            by_cases h3 : Att (pgL x) 1 (inD n inn) (fun v => gb lost v = true) v
            · exact .inr h3
            · exact .inl ⟨(hRD2 v).2 ⟨h1, h3⟩, h2⟩
      · subst e
        have hop : ((1 : Int) - 1) = 0 := rfl
        rw [hop] at hRD2 haw
        obtain ⟨⟨s1, hs1⟩, -⟩ := ih
        obtain ⟨⟨m0, hm0⟩, ⟨m1, hm1⟩⟩ := ih2
        have hLs : ∀ v, inD n inn v → (gb lost v = true ↔ inD n rest v ∧ gb low v = true) := fun v hv => by
          rw [hlost v hv.1]
          constructor
          · rintro ⟨h1, h2⟩
            exact ⟨⟨hv.1, h1⟩, h2.2 (by decide)⟩
          · rintro ⟨h1, h2⟩
            exact ⟨h1.2, by rw [h2]; simp⟩
        have hatt := fun v => att_cong (g := pgL x) (who := 0) hLs v
        have hown2 : ∀ v, (pgL x).own v = 1 ∨ (pgL x).own v = 0 := fun v => (hown v).symm
        obtain ⟨s', hs'⟩ := zie_opp (who := 1) (opp := 0) hown2 (by decide) (wins_cong hs1 hRD fun v => Iff.rfl) (wins_cong hm0 (fun v => by rw [hRD2 v, hatt v]) fun v => Iff.rfl)
        have hz := zie_who (who := 1) (opp := 0) hown2 (wins_cong hm1 hRD2 fun v => Iff.rfl)
        have hres : ∀ v, v < n → gb (mapB n (winB again away 1)) v = (gb again v || gb away v) := fun v hv => by
          rw [mapB_at hv]; unfold winB; rw [show ((1 : Int) == 1) = true from rfl, Bool.and_true]
        refine ⟨⟨s', wins_cong hs' (fun v => Iff.rfl) fun v => ?_⟩, ⟨m1, wins_cong hz (fun v => Iff.rfl) fun v => ?_⟩⟩
        · rw [← hatt v]
          constructor
          · rintro (⟨h1, h2⟩ | h)
            · exact ⟨((hRD2 v).1 h1).1, by rw [hres v h1.1, h2]; rfl⟩
            · have hv := h.inD
              exact ⟨hv, by rw [hres v hv.1, (haw v hv.1).2 h, Bool.or_true]⟩
          · rintro ⟨h1, h2⟩
            rw [hres v h1.1, Bool.or_eq_true] at h2
            rcases h2 with h2 | h2
            · exact .inl ⟨⟨h1.1, hsub v h1.1 h2⟩, h2⟩
            · exact .inr ((haw v h1.1).1 h2)
        · constructor
          · rintro ⟨h1, h2⟩
            have h3 := (hRD2 v).1 h1
            refine ⟨h3.1, ?_⟩
            rw [hres v h1.1, h2, Bool.eq_false_iff.2 fun e => h3.2 ((haw v h1.1).1 e)]
            rfl
          · rintro ⟨h1, h2⟩
            rw [hres v h1.1, Bool.or_eq_false_iff] at h2
            refine ⟨(hRD2 v).2 ⟨h1, fun h => ?_⟩, h2.1⟩
            have := (haw v h1.1).2 h
            rw [h2.2] at this
            cases this
    · rw [if_neg ha]
      have hnl : ∀ v, v < n → ¬ gb lost v = true := fun v hv h => ha (anyB_iff.2 ⟨v, hv, h⟩)
      have hall : ∀ s, Wins (pgL x) who (inD n rest) (inD n rest) s → ∃ s', Wins (pgL x) who (inD n inn) (inD n inn) s' := fun s h => by
        refine zie_all (top := top.toNat) hn hl (fun v hv => ?_) ?_ (s := s) ?_
        · have := hmax v hv.1 hv.2
          have := hx.pr v hv.1
          show (gi x.prio v).toNat ≤ _
          omega
        · rw [← hW, tmodW (by omega)]; omega
        · refine wins_cong h (fun v => ?_) (fun v => ?_) <;> (rw [hRD, att_cong fun v hv => hgoal v hv])
      rcases hw2 with e | e
      · subst e
        obtain ⟨⟨s, hs⟩, -⟩ := ih
        obtain ⟨s', hs'⟩ := hall s (wins_cong hs (fun v => Iff.rfl) fun v => ⟨fun h => h.1, fun h => ⟨h, by have := hnl v h.1; rw [hlost v h.1] at this; have h5 := h.2; cases hlv : gb low v <;> simp_all⟩⟩)
        refine ⟨⟨s', wins_cong hs' (fun v => Iff.rfl) fun v => ⟨fun h => ⟨h, by rw [mapB_at h.1]; unfold winA; rw [h.2]; rfl⟩, fun h => h.1⟩⟩, wins_none _ _ _ _ fun v h => ?_⟩
        have h5 := h.2
        rw [mapB_at h.1.1] at h5
        unfold winA at h5
        rw [h.1.2] at h5
        cases h5
      · subst e
        obtain ⟨-, ⟨s, hs⟩⟩ := ih
        obtain ⟨s', hs'⟩ := hall s (wins_cong hs (fun v => Iff.rfl) fun v => ⟨fun h => h.1, fun h => ⟨h, by have := hnl v h.1; rw [hlost v h.1] at this; have h5 := h.2; cases hlv : gb low v <;> simp_all⟩⟩)
        refine ⟨wins_none _ _ _ _ fun v h => ?_, ⟨s', wins_cong hs' (fun v => Iff.rfl) fun v => ⟨fun h => ⟨h, by rw [mapB_at h.1]; unfold winA; rw [h.2]; rfl⟩, fun h => h.1⟩⟩⟩
        have h5 := h.2
        rw [mapB_at h.1.1] at h5
        unfold winA at h5
        rw [h.1.2] at h5
        cases h5
end
end Go.Proofs.Ytdbecmmeifdafaa
