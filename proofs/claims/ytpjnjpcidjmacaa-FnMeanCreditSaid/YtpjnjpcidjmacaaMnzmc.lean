/- the means, by long plays and rounding: both sides -/
import Derived.Test.YtpjnjpcidjmacaaMvzmc
import Derived.Test.YtpjnjpcidjmacaaGKzmc
import Derived.Test.YtpjnjpcidjmacaaTFracSzmc
namespace Go.Proofs.Ytpjnjpcidjmacaa
open Nat renaming reduceMod → zA, reduceMul → zB, reduceDiv → zC, reduceAdd → zD, reduceSub → zE, reduceEqDiff → zF, reduceBEq → zG, reduceLT → zH, reduceLeDiff → zI
open Go.RowKit
set_option linter.unusedVariables false
set_option linter.unusedSimpArgs false

open MV (Gm)
def maxI : Int → List Int → Int
  | m, [] => m
  | m, c :: r => maxI (if c > m then c else m) r
def mostI : Int → List Int → Int
  | m, [] => m
  | m, c :: r => mostI (if (c.natAbs : Int) > m then (c.natAbs : Int) else m) r
def mostR : Int → List (List Int) → Int
  | m, [] => m
  | m, r :: rs => mostR (mostI m r) rs
theorem maxI_app (m : Int) (a b : List Int) : maxI m (a ++ b) = maxI (maxI m a) b := by
  induction a generalizing m with
  | nil => rfl
  | cons x a ih => exact ih _
theorem mostR_app (m : Int) (a b : List (List Int)) : mostR m (a ++ b) = mostR (mostR m a) b := by
  induction a generalizing m with
  | nil => rfl
  | cons x a ih => exact ih _
theorem maxI_take {m : Int} {r : List Int} {k : Nat} (h : k < r.length) : maxI m (r.take (k + 1)) = if gi r k > maxI m (r.take k) then gi r k else maxI m (r.take k) := by
  rw [List.take_add_one, gi_lt h, maxI_app]
  rfl
theorem mostR_take {m : Int} {rs : List (List Int)} {k : Nat} (h : k < rs.length) : mostR m (rs.take (k + 1)) = mostI (mostR m (rs.take k)) (gl rs k) := by
  rw [List.take_add_one, gl_lt h, mostR_app]
  rfl
theorem maxI_iff {B : Int} : ∀ {r : List Int} {m : Int}, maxI m r ≤ B ↔ m ≤ B ∧ ∀ x ∈ r, x ≤ B
  | [], m => by simp [maxI]
  | c :: r, m => by
    unfold maxI
    rw [maxI_iff (r := r)]
    simp only [List.mem_cons, forall_eq_or_imp]
    split <;> constructor <;> intro h <;> refine ⟨by omega, ?_⟩ <;> first | exact ⟨by omega, h.2⟩ | exact h.2.2
theorem worstI_iff {B : Int} : ∀ {r : List Int} {m : Int}, worstI m r ≤ B ↔ m ≤ B ∧ ∀ x ∈ r, -x ≤ B
  | [], m => by simp [worstI]
  | c :: r, m => by
    unfold worstI
    rw [worstI_iff (r := r)]
    simp only [List.mem_cons, forall_eq_or_imp]
    split <;> constructor <;> intro h <;> refine ⟨by omega, ?_⟩ <;> first | exact ⟨by omega, h.2⟩ | exact h.2.2
theorem mostI_iff {B : Int} : ∀ {r : List Int} {m : Int}, mostI m r ≤ B ↔ m ≤ B ∧ ∀ x ∈ r, (x.natAbs : Int) ≤ B
  | [], m => by simp [mostI]
  | c :: r, m => by
    unfold mostI
    rw [mostI_iff (r := r)]
    simp only [List.mem_cons, forall_eq_or_imp]
    split <;> constructor <;> intro h <;> refine ⟨by omega, ?_⟩ <;> first | exact ⟨by omega, h.2⟩ | exact h.2.2
theorem mostR_iff {B : Int} : ∀ {rs : List (List Int)} {m : Int}, mostR m rs ≤ B ↔ m ≤ B ∧ ∀ r ∈ rs, ∀ x ∈ r, (x.natAbs : Int) ≤ B
  | [], m => by simp [mostR]
  | c :: r, m => by
    unfold mostR
    rw [mostR_iff (rs := r), mostI_iff]
    simp only [List.mem_cons, forall_eq_or_imp]
    constructor
    · rintro ⟨⟨h1, h2⟩, h3⟩; exact ⟨h1, h2, h3⟩
    · rintro ⟨h1, h2, h3⟩; exact ⟨⟨h1, h2⟩, h3⟩
theorem eq_of_iff {a b : Int} (h : ∀ B, a ≤ B ↔ b ≤ B) : a = b := by
  have h1 := (h b).2 (Int.le_refl _)
  have h2 := (h a).1 (Int.le_refl _)
  omega
theorem most3 {m : Int} {r : List Int} (h : 1 ≤ r.length) : (if worstI (-gi r 0) r > (if maxI (gi r 0) r > m then maxI (gi r 0) r else m) then worstI (-gi r 0) r else (if maxI (gi r 0) r > m then maxI (gi r 0) r else m)) = mostI m r := by
  refine eq_of_iff fun B => ?_
  have h1 := maxI_iff (B := B) (r := r) (m := gi r 0)
  have h2 := worstI_iff (B := B) (r := r) (m := -gi r 0)
  have h3 := mostI_iff (B := B) (r := r) (m := m)
  have h0 : gi r 0 ∈ r := List.mem_of_getElem? (gi_lt h)
  rw [h3]
  have key : (maxI (gi r 0) r ≤ B ∧ worstI (-gi r 0) r ≤ B) ↔ ∀ x ∈ r, (x.natAbs : Int) ≤ B := by
    rw [h1, h2]
    constructor
    · rintro ⟨⟨_, a⟩, _, b⟩ x hx
      have := a x hx; have := b x hx; omega
    · intro a
      have b1 : ∀ x ∈ r, x ≤ B := fun x hx => by have := a x hx; omega
      have b2 : ∀ x ∈ r, -x ≤ B := fun x hx => by have := a x hx; omega
      exact ⟨⟨b1 _ h0, b1⟩, b2 _ h0, b2⟩
  rw [← key]
  omega
def mostW (w : Wt) : Int := mostR 1 w.cost
/-- The arena as a game. -/
def gmW (w : Wt) : Gm := ⟨fun v => decide (gi w.a.owner v = 0), fun v => (gl w.a.next v).length, fun v j => (gi (gl w.a.next v) j).toNat, fun v j => gi (gl w.cost v) j⟩
/-- Shape, and costs within 1000. -/
structure WMn (w : Wt) : Prop where
  sh : WSh w
  n8 : w.a.owner.length ≤ 8
  c1 : ∀ v, v < w.a.owner.length → ∀ j, j < (gl w.a.next v).length → -1000 ≤ gi (gl w.cost v) j ∧ gi (gl w.cost v) j ≤ 1000
theorem WMn.most {w : Wt} (h : WMn w) (k : Nat) : 1 ≤ mostR 1 (w.cost.take k) ∧ mostR 1 (w.cost.take k) ≤ 1000 := by
  constructor
  · exact (mostR_iff.1 (Int.le_refl (mostR 1 (w.cost.take k)))).1
  · refine mostR_iff.2 ⟨by omega, fun r hr x hx => ?_⟩
    obtain ⟨v, hv, rfl⟩ := mem_gl (List.mem_of_mem_take hr)
    obtain ⟨j, hj, rfl⟩ := mem_gi hx
    have hv' : v < w.a.owner.length := by have := h.sh.cl; omega
    have := h.c1 v hv' j (by have := (h.sh.row v hv').1; omega)
    omega
theorem WMn.mW {w : Wt} (h : WMn w) : 1 ≤ mostW w ∧ mostW w ≤ 1000 := by
  have := h.most w.cost.length
  rwa [List.take_length] at this
theorem WMn.game {w : Wt} (h : WMn w) : (gmW w).Ok w.a.owner.length (mostW w) := by
  have key : ∀ v, v < w.a.owner.length → ∀ j, j < (gl w.a.next v).length → ((gi (gl w.cost v) j).natAbs : Int) ≤ mostW w := fun v hv j hj => by
    refine (mostR_iff.1 (Int.le_refl (mostR 1 w.cost))).2 (gl w.cost v) (List.mem_of_getElem? (gl_lt (by have := h.sh.cl; omega))) _ (List.mem_of_getElem? (gi_lt (by have := (h.sh.row v hv).1; omega)))
  refine ⟨fun v hv => (h.sh.row v hv).2.1, fun v hv j hj => ?_, fun v hv j hj => ?_, fun v hv j hj => ?_⟩
  · have := h.sh.to v hv j hj
    show (gi (gl w.a.next v) j).toNat < _
    omega
  · have := key v hv j hj
    show -mostW w ≤ gi (gl w.cost v) j
    omega
  · have := key v hv j hj
    show gi (gl w.cost v) j ≤ mostW w
    omega
theorem optB_bd {mx : Bool} {f : Nat → Int} {X : Int} : ∀ {k : Nat}, 1 ≤ k → (∀ j, j < k → -X ≤ f j ∧ f j ≤ X) → -X ≤ MV.optB mx f k ∧ MV.optB mx f k ≤ X := fun {k} hk h => by
  obtain ⟨j, hj, he⟩ := MV.optB_ex mx f k hk
  rw [he]
  exact h j hj
/-- What so many steps bring is bounded. -/
theorem WMn.pay {w : Wt} (h : WMn w) : ∀ (k v : Nat), v < w.a.owner.length → -(k * mostW w) ≤ (gmW w).pay k v ∧ (gmW w).pay k v ≤ k * mostW w
  | 0, v, hv => by show -((0 : Nat) * mostW w) ≤ 0 ∧ (0 : Int) ≤ (0 : Nat) * mostW w; simp
  | k + 1, v, hv => by
    have hg := h.game
    refine optB_bd (hg.deg v hv) fun j hj => ?_
    have h1 := hg.lo v hv j hj
    have h2 := hg.hi v hv j hj
    have h3 := h.pay k _ (hg.to v hv j hj)
    simp only [Int.natCast_add, Int.natCast_one, Int.add_mul, Int.one_mul]
    omega
theorem WMn.payB {w : Wt} (h : WMn w) {k v : Nat} (hv : v < w.a.owner.length) (hk : k ≤ 2048001) : -2048001000 ≤ (gmW w).pay k v ∧ (gmW w).pay k v ≤ 2048001000 := by
  have h1 := h.pay k v hv
  have h2 := h.mW
  have h3 : (k : Int) * mostW w ≤ 2048001 * 1000 := Int.mul_le_mul (by omega) h2.2 (by omega) (by omega)
  omega
def payL (w : Wt) (k : Nat) : List Int := (List.range w.a.owner.length).map ((gmW w).pay k)
theorem payL_len (w : Wt) (k : Nat) : (payL w k).length = w.a.owner.length := by simp [payL]
theorem payL_gi {w : Wt} {k v : Nat} (h : v < w.a.owner.length) : gi (payL w k) v = (gmW w).pay k v := by
  unfold gi payL
  rw [List.getD_eq_getElem?_getD, List.getElem?_map, List.getElem?_range h]
  rfl
theorem payL_0 (w : Wt) : payL w 0 = List.replicate w.a.owner.length 0 := by
  refine List.ext_getElem? fun i => ?_
  unfold payL
  rw [List.getElem?_map, List.getElem?_replicate]
  split
  · rename_i h; rw [List.getElem?_range h]; rfl
  · rename_i h; rw [List.getElem?_eq_none (by simp; omega)]; rfl
theorem gi_ext3 {a b : List Int} (hl : a.length = b.length) (h : ∀ v, v < a.length → gi a v = gi b v) : a = b := by
  refine List.ext_getElem? fun i => ?_
  by_cases hi : i < a.length
  · rw [gi_lt hi, gi_lt (by omega), h i hi]
  · rw [List.getElem?_eq_none (by omega), List.getElem?_eq_none (by omega)]
theorem payL_ext {w : Wt} {k : Nat} {z : List Int} (hl : z.length = w.a.owner.length) (h : ∀ u, u < w.a.owner.length → gi z u = (gmW w).pay k u) : z = payL w k :=
  gi_ext3 (by rw [payL_len, hl]) fun v hv => by rw [h v (by omega), payL_gi (by omega)]
/-- What the edge j of v brings, with k more steps. -/
def edgeV (w : Wt) (k v j : Nat) : Int := gi (gl w.cost v) j + (gmW w).pay k (gi (gl w.a.next v) j).toNat
theorem pay_s (w : Wt) (k v : Nat) : (gmW w).pay (k + 1) v = MV.optB (decide (gi w.a.owner v = 0)) (edgeV w k v) (gl w.a.next v).length := rfl
theorem edge_bd {w : Wt} (h : WMn w) {k v j : Nat} (hv : v < w.a.owner.length) (hj : j < (gl w.a.next v).length) (hk : k ≤ 2048001) : -2048002000 ≤ edgeV w k v j ∧ edgeV w k v j ≤ 2048002000 := by
  have h1 := h.payB (h.game.to v hv j hj) hk
  have h2 := h.c1 v hv j hj
  unfold edgeV
  show -2048002000 ≤ gi (gl w.cost v) j + (gmW w).pay k ((gmW w).to v j) ∧ gi (gl w.cost v) j + (gmW w).pay k ((gmW w).to v j) ≤ 2048002000
  omega
def valF (w : Wt) (v : Nat) : Fr := frOf ((gmW w).val w.a.owner.length v).1 ((gmW w).val w.a.owner.length v).2
def meansL (w : Wt) : List Fr := (List.range w.a.owner.length).map (valF w)
theorem meansL_len (w : Wt) : (meansL w).length = w.a.owner.length := by simp [meansL]
def meansT (w : Wt) (k : Nat) : List Fr := (List.range k).map (valF w)
theorem meansT_len (w : Wt) (k : Nat) : (meansT w k).length = k := by simp [meansT]
theorem meansT_s (w : Wt) (k : Nat) : meansT w (k + 1) = meansT w k ++ [valF w k] := by simp [meansT, List.range_succ]
theorem mul_bd {x q X Q : Int} (h : -X ≤ x ∧ x ≤ X) (hq : -Q ≤ q ∧ q ≤ Q) (hX : 0 ≤ X) (hQ : 0 ≤ Q) : -(X * Q) ≤ x * q ∧ x * q ≤ X * Q := by
  have h1 : (x * q).natAbs ≤ X.natAbs * Q.natAbs := by
    rw [Int.natAbs_mul]
    exact Nat.mul_le_mul (by omega) (by omega)
  have h2 : ((X.natAbs * Q.natAbs : Nat) : Int) = X * Q := by
    rw [Int.natCast_mul]
    congr 1 <;> omega
  omega
set_option maxRecDepth 20000 in
set_option maxHeartbeats 4000000 in
theorem MaxM_fn (r : List Int) (h : 1 ≤ r.length) (h2 : r.length ≤ 1048576) : Fn Try.prog tyT 101 [.c (DI r)] [.c (.int .i64 (maxI (gi r 0) r))] := by
  refine Fn_of (fn := Try.f101) (ts := [2]) Try.func101 (by kernel_rfl) rfl rfl (by rw [Try.ntmps101]; exact Nat.le_of_ble_eq_true rfl) rfl (by simp only [szA, List.mem_cons, List.not_mem_nil, or_false, forall_eq_or_imp, forall_eq, VT.cells, szL]; try decide) ?_
  rw [Try.ntmps101]
  simp only [push_cast, ↓brB_true, ↓brB_false, ↓reduceIte, zA, zB, zC, zD, zE, zF, zG, zH, zI, reduceCtorEq]
  refine awp_seq' fun K hK => ?_
  refine awp_region tyOk tyPos [] rfl ?_
  simp only [push_cast, ↓brB_true, ↓brB_false, ↓reduceIte, zA, zB, zC, zD, zE, zF, zG, zH, zI, reduceCtorEq]
  repeat' apply And.intro
  all_goals first | exact True.intro | exact rfl | omega | with_reducible assumption | (simp only [List.length_set, List.length_append, List.length_replicate, List.length_cons, List.length_nil]; omega) | skip
  all_goals first | (refine hK _ ?_; clear hK K) | (simp only [push_cast]; done)
  refine awp_seq' fun K1 hK1 => ?_
  refine awp_seq' fun K hK => ?_
  refine awp_region tyOk tyPos [] rfl ?_
  simp only [push_cast, ↓brB_true, ↓brB_false, ↓reduceIte, zA, zB, zC, zD, zE, zF, zG, zH, zI, reduceCtorEq]
  repeat' apply And.intro
  all_goals first | exact True.intro | exact rfl | omega | with_reducible assumption | (simp only [List.length_set, List.length_append, List.length_replicate, List.length_cons, List.length_nil]; omega) | skip
  all_goals first | (refine hK _ ?_; clear hK K) | (simp only [push_cast]; done)
  refine awp_cond rfl (fun hc => ?_) (fun hc => ?_)
  skip
  · exfalso; first | (cases hc; done) | (simp only [push_cast] at hc; done) | (simp only [push_cast] at hc; omega) | omega
  refine awp_skip ?_
  (try simp only [AThen, ABlk, reduceIte, zF]); refine hK1 _ ?_
  refine awp_seq' fun K hK => ?_
  refine awp_region tyOk tyPos [] rfl ?_
  simp only [push_cast, ↓brB_true, ↓brB_false, ↓reduceIte, zA, zB, zC, zD, zE, zF, zG, zH, zI, reduceCtorEq]
  repeat' apply And.intro
  all_goals first | exact True.intro | exact rfl | omega | with_reducible assumption | (simp only [List.length_set, List.length_append, List.length_replicate, List.length_cons, List.length_nil]; omega) | skip
  all_goals first | (refine hK _ ?_; clear hK K) | (simp only [push_cast]; done)
  refine awp_seq' fun K2 hK2 => ?_
  refine awp_seq' fun K hK => ?_
  refine awp_region tyOk tyPos [] rfl ?_
  simp only [push_cast, ↓brB_true, ↓brB_false, ↓reduceIte, zA, zB, zC, zD, zE, zF, zG, zH, zI, reduceCtorEq]
  repeat' apply And.intro
  all_goals first | exact True.intro | exact rfl | omega | with_reducible assumption | (simp only [List.length_set, List.length_append, List.length_replicate, List.length_cons, List.length_nil]; omega) | skip
  all_goals first | (refine hK _ ?_; clear hK K) | (simp only [push_cast]; done)
  refine awp_block ?_
  refine awp_loopU [3,4,12,13,14,15,16,17,18,19,20,21,22,23] [] (fun (k : Nat) => [(4, .int .i64 k), (3, .int .i64 (maxI (gi r 0) (r.take k)))]) (fun k => []) (fun k => []) (fun k => 1 ≤ k ∧ k ≤ r.length) (fun k => r.length - k) 1 ?_ (by omega) ?_
  ·
    rw [maxI_take (by omega), List.take_zero, show maxI (gi r 0) [] = gi r 0 from rfl, if_neg (by omega)]
    refine cov_of rfl ?_ ?_ ?_ <;> simp only [covS, covL, push_cast, ↓brB_true, ↓brB_false, ↓reduceIte, zA, zB, zC, zD, zE, zF, zG, zH, zI, reduceCtorEq]
  · rintro k ⟨hk1, hk⟩ KL0 hL0
    simp only [push_cast, ↓brB_true, ↓brB_false, ↓reduceIte, zA, zB, zC, zD, zE, zF, zG, zH, zI, reduceCtorEq]
    refine awp_seq' fun K3 hK3 => ?_
    refine awp_seq' fun K hK => ?_
    refine awp_region tyOk tyPos [] rfl ?_
    simp only [push_cast, ↓brB_true, ↓brB_false, ↓reduceIte, zA, zB, zC, zD, zE, zF, zG, zH, zI, reduceCtorEq]
    repeat' apply And.intro
    all_goals first | exact True.intro | exact rfl | omega | with_reducible assumption | (simp only [List.length_set, List.length_append, List.length_replicate, List.length_cons, List.length_nil]; omega) | skip
    all_goals first | (refine hK _ ?_; clear hK K) | (simp only [push_cast]; done)
    refine awp_cond rfl (fun hc => ?_) (fun hc => ?_) <;> (try simp only [push_cast] at hc)
    ·
      refine awp_skip ?_
      (try simp only [AThen, ABlk, reduceIte, zF]); refine hK3 _ ?_
      refine awp_seq' fun K4 hK4 => ?_
      refine awp_block ?_
      refine awp_region tyOk tyPos [] rfl ?_
      simp only [push_cast, ↓brB_true, ↓brB_false, ↓reduceIte, zA, zB, zC, zD, zE, zF, zG, zH, zI, reduceCtorEq]
      repeat' apply And.intro
      all_goals first | exact True.intro | exact rfl | omega | with_reducible assumption | (simp only [List.length_set, List.length_append, List.length_replicate, List.length_cons, List.length_nil]; omega) | skip
      (try simp only [AThen, ABlk, reduceIte, zF]); refine hK4 _ ?_
      refine awp_region tyOk tyPos [] rfl ?_
      simp only [push_cast, ↓brB_true, ↓brB_false, ↓reduceIte, zA, zB, zC, zD, zE, zF, zG, zH, zI, reduceCtorEq]
      repeat' apply And.intro
      all_goals first | exact True.intro | exact rfl | omega | with_reducible assumption | (simp only [List.length_set, List.length_append, List.length_replicate, List.length_cons, List.length_nil]; omega) | skip
      refine hL0 _ ⟨k + 1, by omega, by omega, ?_⟩
      rw [maxI_take (by omega)]
      refine cov_of rfl ?_ ?_ ?_ <;> simp only [covS, covL, push_cast, ↓brB_true, ↓brB_false, ↓reduceIte, zA, zB, zC, zD, zE, zF, zG, zH, zI, reduceCtorEq]
    ·
      refine awp_exit ?_
      (try simp only [AThen, ABlk, reduceIte, zF]); refine hK2 _ ?_
      refine awp_seq' fun K hK => ?_
      refine awp_region tyOk tyPos [] rfl ?_
      simp only [push_cast, ↓brB_true, ↓brB_false, ↓reduceIte, zA, zB, zC, zD, zE, zF, zG, zH, zI, reduceCtorEq]
      repeat' apply And.intro
      all_goals first | exact True.intro | exact rfl | omega | with_reducible assumption | (simp only [List.length_set, List.length_append, List.length_replicate, List.length_cons, List.length_nil]; omega) | skip
      all_goals first | (refine hK _ ?_; clear hK K) | (simp only [push_cast]; done)
      refine awp_ret ?_
      (try simp only [AThen, ABlk])
      refine ⟨Or.inl rfl, ?_⟩
      simp only [RetOk, push_cast, ↓brB_true, ↓brB_false, ↓reduceIte, zA, zB, zC, zD, zE, zF, zG, zH, zI, reduceCtorEq]
      rw [show k = r.length from by omega, List.take_length]
/-- What is known of the sum of so long a play: it is near to so many times the mean. -/
structure NearM (x S n W p q : Int) : Prop where
  n1 : 1 ≤ n
  n8 : n ≤ 8
  w1 : 1 ≤ W
  w2 : W ≤ 1000
  q1 : 1 ≤ q
  q2 : q ≤ n
  up : q * x ≤ S * p + 2 * ((n - 1) * (q * W))
  lo : S * p - 2 * ((n - 1) * (q * W)) ≤ q * x
theorem nW_bd {n W : Int} (n1 : 1 ≤ n) (n8 : n ≤ 8) (w1 : 1 ≤ W) (w2 : W ≤ 1000) : (1 ≤ n * n ∧ n * n ≤ 64) ∧ (1 ≤ n * n * n ∧ n * n * n ≤ 512) ∧ (1 ≤ n * n * n * W ∧ n * n * n * W ≤ 512000) ∧ (1 ≤ n * W ∧ n * W ≤ 8000) := by
  have a1 : n * n ≤ 8 * 8 := Int.mul_le_mul n8 n8 (by omega) (by omega)
  have b1 : 1 * 1 ≤ n * n := Int.mul_le_mul n1 n1 (by omega) (by omega)
  have a2 : n * n * n ≤ 64 * 8 := Int.mul_le_mul (by omega) n8 (by omega) (by omega)
  have b2 : 1 * 1 ≤ n * n * n := Int.mul_le_mul (by omega) n1 (by omega) (by omega)
  have a3 : n * n * n * W ≤ 512 * 1000 := Int.mul_le_mul (by omega) w2 (by omega) (by omega)
  have b3 : 1 * 1 ≤ n * n * n * W := Int.mul_le_mul (by omega) w1 (by omega) (by omega)
  have a4 : n * W ≤ 8 * 1000 := Int.mul_le_mul n8 w2 (by omega) (by omega)
  have b4 : 1 * 1 ≤ n * W := Int.mul_le_mul n1 w1 (by omega) (by omega)
  omega
theorem nf_accept {x S n W p q : Int} (h : NearM x S n W p q) (hS : S = 4 * (n * n * n * W) + 1) {d k : Int} (hk : 1 ≤ k) (hk2 : k ≤ n) (h1 : x * k - d * S ≤ 2 * n * W * k) (h2 : -(x * k - d * S) ≤ 2 * n * W * k) : frOf d k = frOf p q := by
  subst hS
  exact MV.accept_same h.n1 h.w1 hk hk2 h.q1 h.q2 h1 (by omega) h.up h.lo
theorem nf_mean {x S n W p q : Int} (h : NearM x S n W p q) (hS : S = 4 * (n * n * n * W) + 1) : (x * q - p * S ≤ 2 * n * W * q ∧ -(x * q - p * S) ≤ 2 * n * W * q) ∧ (x * q).tdiv S - 1 ≤ p ∧ p ≤ (x * q).tdiv S + 1 := by
  subst hS
  have := MV.accept_mean h.n1 h.w1 h.q1 h.q2 h.up h.lo
  refine ⟨⟨this.1.1, by have := this.1.2; omega⟩, this.2⟩
/-- The numerator nearest to a denominator. -/
def rndN (x S q : Int) : Int := (2 * x * q + S) / (2 * S)
def dstN' (x S q : Int) : Int := ((x * q - rndN x S q * S).natAbs : Int)
set_option maxRecDepth 20000 in
set_option maxHeartbeats 4000000 in
theorem nearestFrac_fn (x S n e W p0 q0 : Int) (hN : NearM x S n W p0 q0) (hx : -3000000000 ≤ x ∧ x ≤ 3000000000) (hS : S = 4 * (n * n * n * W) + 1) (he : e = 2 * n * W) : Fn Try.prog tyT 103 [.c (.int .i64 x), .c (.int .i64 S), .c (.int .i64 n), .c (.int .i64 e)] [.agg (dFr (frOf p0 q0))] := by
  have hb := nW_bd hN.n1 hN.n8 hN.w1 hN.w2
  have hn1 := hN.n1
  have hn8 := hN.n8
  have hq1 := hN.q1
  have hq2 := hN.q2
  have hS2 : 1 ≤ S ∧ S ≤ 2048001 := by omega
  have he2 : 0 ≤ e ∧ e ≤ 16000 := by rw [he, Int.mul_assoc]; omega
  have hm := nf_mean hN hS
  have hac := fun d k hk hk2 => nf_accept hN hS (d := d) (k := k) hk hk2
  rw [← he] at hm hac
  have hF := fracOf_fn
  unfold dFr at hF ⊢
  refine Fn_ofR (fn := Try.f103) (rs := [.cell 8 41]) tyOk tyPos Try.func103 (by kernel_rfl) rfl rfl (by rw [Try.ntmps103]; exact Nat.le_of_ble_eq_true rfl) rfl (by simp only [szA, List.mem_cons, List.not_mem_nil, or_false, forall_eq_or_imp, forall_eq, VT.cells, szL]; try decide) ?_
  rw [Try.ntmps103]
  simp only [push_cast, ↓brB_true, ↓brB_false, ↓reduceIte, zA, zB, zC, zD, zE, zF, zG, zH, zI, reduceCtorEq]
  refine awp_seq' fun K hK => ?_
  refine awp_region tyOk tyPos [] rfl ?_
  all_goals simp only [push_cast, ↓brB_true, ↓brB_false, ↓reduceIte, zA, zB, zC, zD, zE, zF, zG, zH, zI, reduceCtorEq]
  all_goals repeat' (first | (apply brB_mk <;> (intro hg; (try simp only [push_cast] at hg))) | apply And.intro | (intro hg; (try simp only [push_cast] at hg)))
  all_goals first | exact True.intro | exact rfl | contradiction | omega | with_reducible assumption | (intro h0; omega) | skip
  all_goals first | (refine hK _ ?_; clear hK K) | (simp only [push_cast]; done)
  refine awp_seq' fun K1 hK1 => ?_
  refine awp_seq' fun K hK => ?_
  refine awp_region tyOk tyPos [] rfl ?_
  all_goals simp only [push_cast, ↓brB_true, ↓brB_false, ↓reduceIte, zA, zB, zC, zD, zE, zF, zG, zH, zI, reduceCtorEq]
  all_goals repeat' (first | (apply brB_mk <;> (intro hg; (try simp only [push_cast] at hg))) | apply And.intro | (intro hg; (try simp only [push_cast] at hg)))
  all_goals first | exact True.intro | exact rfl | contradiction | omega | with_reducible assumption | (intro h0; omega) | skip
  all_goals first | (refine hK _ ?_; clear hK K) | (simp only [push_cast]; done)
  refine awp_block ?_
  refine awp_loopU [9,10,11,12,13,14,15,16,17,18,19,20,21,22,23,24,25,26,27,28,29,30,31,32,33,34,35,36,37,38,39,40,41,42,43,44,45,46,47,48,49,50,51,52,53] [] (fun (q : Int) => [(9, .int .i64 q)]) (fun q => []) (fun q => []) (fun q => 1 ≤ q ∧ q ≤ q0) (fun q => (q0 - q).toNat) 1 ?_ ⟨by omega, by omega⟩ ?_
  ·
    refine cov_of rfl ?_ ?_ ?_ <;> simp only [covS, covL, push_cast, ↓brB_true, ↓brB_false, ↓reduceIte, zA, zB, zC, zD, zE, zF, zG, zH, zI, reduceCtorEq]
  · rintro q ⟨hk1, hk2⟩ KL0 hL0
    have hb1 := mul_bd (x := x) (q := q) (X := 3000000000) (Q := 8) hx (by omega) (by omega) (by omega)
    have hb2 := mul_bd (x := e) (q := q) (X := 16000) (Q := 8) (by omega) (by omega) (by omega) (by omega)
    have hb3 := tdiv_bd (B := 24000000000) S (by omega : -24000000000 ≤ x * q ∧ x * q ≤ 24000000000)
    simp only [push_cast, ↓brB_true, ↓brB_false, ↓reduceIte, zA, zB, zC, zD, zE, zF, zG, zH, zI, reduceCtorEq]
    refine awp_seq' fun K2 hK2 => ?_
    refine awp_seq' fun K hK => ?_
    refine awp_region tyOk tyPos [] rfl ?_
    all_goals simp only [push_cast, ↓brB_true, ↓brB_false, ↓reduceIte, zA, zB, zC, zD, zE, zF, zG, zH, zI, reduceCtorEq]
    all_goals repeat' (first | (apply brB_mk <;> (intro hg; (try simp only [push_cast] at hg))) | apply And.intro | (intro hg; (try simp only [push_cast] at hg)))
    all_goals first | exact True.intro | exact rfl | contradiction | omega | with_reducible assumption | (intro h0; omega) | skip
    all_goals first | (refine hK _ ?_; clear hK K) | (simp only [push_cast]; done)
    refine awp_cond rfl (fun hc => ?_) (fun hc => ?_)
    rotate_left
    · exfalso; first | (cases hc; done) | (simp only [push_cast] at hc; done) | (simp only [push_cast] at hc; omega) | omega
    refine awp_skip ?_
    (try simp only [AThen, ABlk, reduceIte, zF]); refine hK2 _ ?_
    refine awp_seq' fun K3 hK3 => ?_
    refine awp_block ?_
    refine awp_seq' fun K hK => ?_
    refine awp_region tyOk tyPos [] rfl ?_
    all_goals simp only [push_cast, ↓brB_true, ↓brB_false, ↓reduceIte, zA, zB, zC, zD, zE, zF, zG, zH, zI, reduceCtorEq]
    all_goals repeat' (first | (apply brB_mk <;> (intro hg; (try simp only [push_cast] at hg))) | apply And.intro | (intro hg; (try simp only [push_cast] at hg)))
    all_goals first | exact True.intro | exact rfl | contradiction | omega | with_reducible assumption | (intro h0; omega) | skip
    all_goals first | (refine hK _ ?_; clear hK K) | (simp only [push_cast]; done)
    refine awp_seq' fun K hK => ?_
    refine awp_region tyOk tyPos [] rfl ?_
    all_goals simp only [push_cast, ↓brB_true, ↓brB_false, ↓reduceIte, zA, zB, zC, zD, zE, zF, zG, zH, zI, reduceCtorEq]
    all_goals repeat' (first | (apply brB_mk <;> (intro hg; (try simp only [push_cast] at hg))) | apply And.intro | (intro hg; (try simp only [push_cast] at hg)))
    all_goals first | exact True.intro | exact rfl | contradiction | omega | with_reducible assumption | (intro h0; omega) | skip
    all_goals first | (refine hK _ ?_; clear hK K) | (simp only [push_cast]; done)
    refine awp_block ?_
    obtain ⟨P, hP⟩ : ∃ P, P = (x * q).tdiv S := ⟨_, rfl⟩
    rw [← hP] at hb3 ⊢
    have hst : q = q0 → P - 1 ≤ p0 ∧ p0 ≤ P + 1 := fun h9 => by rw [hP, h9]; exact hm.2
    refine awp_loopU [11,12,25,26,27,28,29,30,31,32,33,34,35,36,37,38,39,40,41,42,43,44,45,46,47,48,49,50,51,52,53] [] (fun (d : Int) => [(11, .int .i64 d)]) (fun d => []) (fun d => []) (fun d => P - 1 ≤ d ∧ d ≤ P + 2 ∧ (q = q0 → d ≤ p0)) (fun d => (P + 2 - d).toNat) (P - 1) ?_ ⟨by omega, by omega, fun h9 => (hst h9).1⟩ ?_
    ·
      refine cov_of rfl ?_ ?_ ?_ <;> simp only [covS, covL, push_cast, ↓brB_true, ↓brB_false, ↓reduceIte, zA, zB, zC, zD, zE, zF, zG, zH, zI, reduceCtorEq]
    · rintro d ⟨hd1, hd2, hd3⟩ KL1 hL1
      have hb4 := mul_bd (x := d) (q := S) (X := 24000000002) (Q := 2048001) (by omega) (by omega) (by omega) (by omega)
      simp only [push_cast, ↓brB_true, ↓brB_false, ↓reduceIte, zA, zB, zC, zD, zE, zF, zG, zH, zI, reduceCtorEq]
      refine awp_seq' fun K4 hK4 => ?_
      refine awp_seq' fun K hK => ?_
      refine awp_region tyOk tyPos [] rfl ?_
      all_goals simp only [push_cast, ↓brB_true, ↓brB_false, ↓reduceIte, zA, zB, zC, zD, zE, zF, zG, zH, zI, reduceCtorEq]
      all_goals repeat' (first | (apply brB_mk <;> (intro hg; (try simp only [push_cast] at hg))) | apply And.intro | (intro hg; (try simp only [push_cast] at hg)))
      all_goals first | exact True.intro | exact rfl | contradiction | omega | with_reducible assumption | (intro h0; omega) | skip
      all_goals first | (refine hK _ ?_; clear hK K) | (simp only [push_cast]; done)
      refine awp_cond rfl (fun hc => ?_) (fun hc => ?_) <;> (try simp only [push_cast] at hc)
      ·
        refine awp_skip ?_
        (try simp only [AThen, ABlk, reduceIte, zF]); refine hK4 _ ?_
        refine awp_seq' fun K5 hK5 => ?_
        refine awp_block ?_
        refine awp_seq' fun K hK => ?_
        refine awp_region tyOk tyPos [] rfl ?_
        all_goals simp only [push_cast, ↓brB_true, ↓brB_false, ↓reduceIte, zA, zB, zC, zD, zE, zF, zG, zH, zI, reduceCtorEq]
        all_goals repeat' (first | (apply brB_mk <;> (intro hg; (try simp only [push_cast] at hg))) | apply And.intro | (intro hg; (try simp only [push_cast] at hg)))
        all_goals first | exact True.intro | exact rfl | contradiction | omega | with_reducible assumption | (intro h0; omega) | skip
        all_goals first | (refine hK _ ?_; clear hK K) | (simp only [push_cast]; done)
        refine awp_seq' fun K hK => ?_
        refine awp_regionN false tyOk tyPos ?_ rfl ?_
        · kernel_rfl
        all_goals simp only [push_cast, ↓brB_true, ↓brB_false, ↓reduceIte, zA, zB, zC, zD, zE, zF, zG, zH, zI, reduceCtorEq]
        all_goals repeat' (first | (apply brB_mk <;> (intro hg; (try simp only [push_cast] at hg))) | apply And.intro | (intro hg; (try simp only [push_cast] at hg)))
        all_goals first | exact True.intro | exact rfl | contradiction | omega | with_reducible assumption | (intro h0; omega) | skip
        all_goals first | (refine hK _ ?_; clear hK K) | (simp only [push_cast]; done)
        all_goals refine awp_cond rfl (fun hc => ?_) (fun hc => ?_)
        all_goals (first | (cases hc; done) | skip)
        all_goals (try simp only [push_cast] at hc)
        all_goals first
          | (
              refine awp_skip ?_
              (try simp only [AThen, ABlk, reduceIte, zF]); refine hK5 _ ?_
              refine awp_region tyOk tyPos [] rfl ?_
              all_goals simp only [push_cast, ↓brB_true, ↓brB_false, ↓reduceIte, zA, zB, zC, zD, zE, zF, zG, zH, zI, reduceCtorEq]
              all_goals repeat' (first | (apply brB_mk <;> (intro hg; (try simp only [push_cast] at hg))) | apply And.intro | (intro hg; (try simp only [push_cast] at hg)))
              all_goals first | exact True.intro | exact rfl | contradiction | omega | with_reducible assumption | (intro h0; omega) | skip
              refine hL1 _ ⟨d + 1, ⟨by omega, by omega, fun h9 => (by
                  have h8 := hd3 h9
                  have h7 := (hst h9).2
                  by_cases h6 : d = p0
                  · exfalso
                    have h5 := hm.1
                    rw [← h9, ← h6] at h5
                    omega
                  · omega)⟩, by omega, ?_⟩
              refine cov_of rfl ?_ ?_ ?_ <;> simp only [covS, covL, push_cast, ↓brB_true, ↓brB_false, ↓reduceIte, zA, zB, zC, zD, zE, zF, zG, zH, zI, reduceCtorEq]
              done)
          | (
              refine awp_seq' fun K hK => ?_
              refine awp_region tyOk tyPos [] rfl ?_
              all_goals refine aops_cut 3 fun K9 hK9 => ?_
              all_goals simp only [push_cast, ↓brB_true, ↓brB_false, ↓reduceIte, zA, zB, zC, zD, zE, zF, zG, zH, zI, reduceCtorEq]
              all_goals repeat' (first | (apply brB_mk <;> (intro hg; (try simp only [push_cast] at hg))) | (refine ⟨_, hF d q (by omega) (by omega), ?_⟩; simp only [push_cast, ↓brB_true, ↓brB_false, ↓reduceIte, zA, zB, zC, zD, zE, zF, zG, zH, zI, reduceCtorEq]) | apply And.intro | (intro hg; (try simp only [push_cast] at hg)))
              all_goals first | exact True.intro | exact rfl | contradiction | omega | with_reducible assumption | (intro h0; omega) | skip
              all_goals first | (refine hK9 _ ?_; clear hK9 K9) | (simp only [push_cast]; done)
              all_goals simp only [push_cast, ↓brB_true, ↓brB_false, ↓reduceIte, zA, zB, zC, zD, zE, zF, zG, zH, zI, reduceCtorEq]
              all_goals repeat' (first | (apply brB_mk <;> (intro hg; (try simp only [push_cast] at hg))) | (refine ⟨_, hF d q (by omega) (by omega), ?_⟩; simp only [push_cast, ↓brB_true, ↓brB_false, ↓reduceIte, zA, zB, zC, zD, zE, zF, zG, zH, zI, reduceCtorEq]) | apply And.intro | (intro hg; (try simp only [push_cast] at hg)))
              all_goals first | exact True.intro | exact rfl | contradiction | omega | with_reducible assumption | (intro h0; omega) | skip
              all_goals first | (refine hK _ ?_; clear hK K) | (simp only [push_cast]; done)
              refine awp_ret ?_
              (try simp only [AThen, ABlk])
              refine ⟨Or.inl rfl, ?_⟩
              simp only [RetOk, resVars, resVar, push_cast, ↓brB_true, ↓brB_false, ↓reduceIte, zA, zB, zC, zD, zE, zF, zG, zH, zI, reduceCtorEq]
              all_goals (rw [← hac d q (by omega) (by omega) (by omega) (by omega)]; first | rfl | exact ⟨rfl, rfl⟩ | (simp; done))
              done)
      ·
        refine awp_exit ?_
        have hne : q ≠ q0 := fun h9 => by have h8 := hd3 h9; have h7 := (hst h9).2; omega
        (try simp only [AThen, ABlk, reduceIte, zF]); refine hK3 _ ?_
        refine awp_region tyOk tyPos [] rfl ?_
        all_goals simp only [push_cast, ↓brB_true, ↓brB_false, ↓reduceIte, zA, zB, zC, zD, zE, zF, zG, zH, zI, reduceCtorEq]
        all_goals repeat' (first | (apply brB_mk <;> (intro hg; (try simp only [push_cast] at hg))) | apply And.intro | (intro hg; (try simp only [push_cast] at hg)))
        all_goals first | exact True.intro | exact rfl | contradiction | omega | with_reducible assumption | (intro h0; omega) | skip
        refine hL0 _ ⟨q + 1, ⟨by omega, by omega⟩, by omega, ?_⟩
        refine cov_of rfl ?_ ?_ ?_ <;> simp only [covS, covL, push_cast, ↓brB_true, ↓brB_false, ↓reduceIte, zA, zB, zC, zD, zE, zF, zG, zH, zI, reduceCtorEq]
/-- The best so far. -/
structure BestN (x S q bn bd off : Int) : Prop where
  first : q = 1 → bn = 0 ∧ bd = 0 ∧ off = 0
  pos : q ≠ 1 → 1 ≤ bd ∧ bd < q ∧ bn = rndN x S bd ∧ off = dstN' x S bd ∧ ∀ k, 1 ≤ k → k < q → off * k ≤ dstN' x S k * bd
theorem BestN.take {x S q bn bd off : Int} (h : BestN x S q bn bd off) (hq : 1 ≤ q) (hc : bd = 0 ∨ dstN' x S q * bd < off * q) : BestN x S (q + 1) (rndN x S q) q (dstN' x S q) := by
  refine ⟨fun h9 => by omega, fun _ => ⟨hq, by omega, rfl, rfl, fun k h1 h2 => ?_⟩⟩
  rcases Int.lt_trichotomy k q with h3 | h3 | h3
  · have hn1 : q ≠ 1 := by omega
    obtain ⟨p1, p2, p3, p4, p5⟩ := h.pos hn1
    have hc' : dstN' x S q * bd < off * q := by
      rcases hc with h0 | h0
      · omega
      · exact h0
    have h5 := p5 k h1 h3
    -- dst q / q < off / bd ≤ dst k / k
    have a1 : (dstN' x S q * bd) * k ≤ (off * q) * k := Int.mul_le_mul_of_nonneg_right (by omega) (by omega)
    have a2 : (off * k) * q ≤ (dstN' x S k * bd) * q := Int.mul_le_mul_of_nonneg_right h5 (by omega)
    have e1 : (dstN' x S q * bd) * k = (dstN' x S q * k) * bd := by ac_rfl
    have e2 : (off * q) * k = (off * k) * q := by ac_rfl
    have e3 : (dstN' x S k * bd) * q = (dstN' x S k * q) * bd := by ac_rfl
    rw [e1, e2] at a1
    rw [e3] at a2
    exact Int.le_of_mul_le_mul_right (Int.le_trans a1 a2) (by omega)
  · subst h3; exact Int.le_refl _
  · omega
theorem BestN.keep {x S q bn bd off : Int} (h : BestN x S q bn bd off) (hq : 1 ≤ q) (hc : ¬ bd = 0) (hc2 : ¬ dstN' x S q * bd < off * q) : BestN x S (q + 1) bn bd off := by
  have hn1 : q ≠ 1 := fun e => hc (h.first e).2.1
  obtain ⟨p1, p2, p3, p4, p5⟩ := h.pos hn1
  refine ⟨fun h9 => by omega, fun _ => ⟨p1, by omega, p3, p4, fun k h1 h2 => ?_⟩⟩
  rcases Int.lt_or_le k q with h3 | h3
  · exact p5 k h1 h3
  · have : k = q := by omega
    subst this
    omega
end Go.Proofs.Ytpjnjpcidjmacaa
