/- the means, by long plays and rounding: both sides -/
import Derived.Test.YtdbecmmeifdafaaB8zme
import Derived.Test.YtdbecmmeifdafaaB7zme
namespace Go.Proofs.Ytdbecmmeifdafaa
open Nat renaming reduceMod → zA, reduceMul → zB, reduceDiv → zC, reduceAdd → zD, reduceSub → zE, reduceEqDiff → zF, reduceBEq → zG, reduceLT → zH, reduceLeDiff → zI
open Go.RowKit
set_option linter.unusedVariables false
set_option linter.unusedSimpArgs false

open MV (Gm)
def maxI : Int → List Int → Int
  | m, [] => m
  | m, c :: r => maxI (if c > m then c else m) r
def mostI : Int → List Int → Int
  | m, [] => m
  | m, c :: r => mostI (if (c.natAbs : Int) > m then (c.natAbs : Int) else m) r
def mostR : Int → List (List Int) → Int
  | m, [] => m
  | m, r :: rs => mostR (mostI m r) rs
theorem maxI_app (m : Int) (a b : List Int) : maxI m (a ++ b) = maxI (maxI m a) b := by
  induction a generalizing m with
  | nil => rfl
  | cons x a ih => exact ih _
theorem mostR_app (m : Int) (a b : List (List Int)) : mostR m (a ++ b) = mostR (mostR m a) b := by
  induction a generalizing m with
  | nil => rfl
  | cons x a ih => exact ih _
theorem maxI_take {m : Int} {r : List Int} {k : Nat} (h : k < r.length) : maxI m (r.take (k + 1)) = if gi r k > maxI m (r.take k) then gi r k else maxI m (r.take k) := by
  rw [List.take_add_one, gi_lt h, maxI_app]
  rfl
theorem mostR_take {m : Int} {rs : List (List Int)} {k : Nat} (h : k < rs.length) : mostR m (rs.take (k + 1)) = mostI (mostR m (rs.take k)) (gl rs k) := by
  rw [List.take_add_one, gl_lt h, mostR_app]
  rfl
theorem maxI_iff {B : Int} : ∀ {r : List Int} {m : Int}, maxI m r ≤ B ↔ m ≤ B ∧ ∀ x ∈ r, x ≤ B
  | [], m => by simp [maxI]
  | c :: r, m => by
    unfold maxI
    rw [maxI_iff (r := r)]
    simp only [List.mem_cons, forall_eq_or_imp]
    split <;> constructor <;> intro h <;> refine ⟨by omega, ?_⟩ <;> first | exact ⟨by omega, h.2⟩ | exact h.2.2
theorem worstI_iff {B : Int} : ∀ {r : List Int} {m : Int}, worstI m r ≤ B ↔ m ≤ B ∧ ∀ x ∈ r, -x ≤ B
  | [], m => by simp [worstI]
  | c :: r, m => by
    unfold worstI
    rw [worstI_iff (r := r)]
    simp only [List.mem_cons, forall_eq_or_imp]
    split <;> constructor <;> intro h <;> refine ⟨by omega, ?_⟩ <;> first | exact ⟨by omega, h.2⟩ | exact h.2.2
theorem mostI_iff {B : Int} : ∀ {r : List Int} {m : Int}, mostI m r ≤ B ↔ m ≤ B ∧ ∀ x ∈ r, (x.natAbs : Int) ≤ B
  | [], m => by simp [mostI]
  | c :: r, m => by
    unfold mostI
    rw [mostI_iff (r := r)]
    simp only [List.mem_cons, forall_eq_or_imp]
    split <;> constructor <;> intro h <;> refine ⟨by omega, ?_⟩ <;> first | exact ⟨by omega, h.2⟩ | exact h.2.2
theorem mostR_iff {B : Int} : ∀ {rs : List (List Int)} {m : Int}, mostR m rs ≤ B ↔ m ≤ B ∧ ∀ r ∈ rs, ∀ x ∈ r, (x.natAbs : Int) ≤ B
  | [], m => by simp [mostR]
  | c :: r, m => by
    unfold mostR
    rw [mostR_iff (rs := r), mostI_iff]
    simp only [List.mem_cons, forall_eq_or_imp]
    constructor
    · rintro ⟨⟨h1, h2⟩, h3⟩; exact ⟨h1, h2, h3⟩
    · rintro ⟨h1, h2, h3⟩; exact ⟨⟨h1, h2⟩, h3⟩
theorem eq_of_iff {a b : Int} (h : ∀ B, a ≤ B ↔ b ≤ B) : a = b := by
  have h1 := (h b).2 (Int.le_refl _)
  have h2 := (h a).1 (Int.le_refl _)
  omega
theorem most3 {m : Int} {r : List Int} (h : 1 ≤ r.length) : (if worstI (-gi r 0) r > (if maxI (gi r 0) r > m then maxI (gi r 0) r else m) then worstI (-gi r 0) r else (if maxI (gi r 0) r > m then maxI (gi r 0) r else m)) = mostI m r := by
  refine eq_of_iff fun B => ?_
  have h1 := maxI_iff (B := B) (r := r) (m := gi r 0)
  have h2 := worstI_iff (B := B) (r := r) (m := -gi r 0)
  have h3 := mostI_iff (B := B) (r := r) (m := m)
  have h0 : gi r 0 ∈ r := List.mem_of_getElem? (gi_lt h)
  rw [h3]
  have key : (maxI (gi r 0) r ≤ B ∧ worstI (-gi r 0) r ≤ B) ↔ ∀ x ∈ r, (x.natAbs : Int) ≤ B := by
    rw [h1, h2]
    constructor
    · rintro ⟨⟨_, a⟩, _, b⟩ x hx
      have := a x hx; have := b x hx; omega
    · intro a
      have b1 : ∀ x ∈ r, x ≤ B := fun x hx => by have := a x hx; omega
      have b2 : ∀ x ∈ r, -x ≤ B := fun x hx => by have := a x hx; omega
      exact ⟨⟨b1 _ h0, b1⟩, b2 _ h0, b2⟩
  rw [← key]
  omega
def mostW (w : Wt) : Int := mostR 1 w.cost
def gmW (w : Wt) : Gm := ⟨fun v => decide (gi w.a.owner v = 0), fun v => (gl w.a.next v).length, fun v j => (gi (gl w.a.next v) j).toNat, fun v j => gi (gl w.cost v) j⟩
structure WMn (w : Wt) : Prop where
  sh : WSh w
  n8 : w.a.owner.length ≤ 8
  c1 : ∀ v, v < w.a.owner.length → ∀ j, j < (gl w.a.next v).length → -1000 ≤ gi (gl w.cost v) j ∧ gi (gl w.cost v) j ≤ 1000
theorem WMn.most {w : Wt} (h : WMn w) (k : Nat) : 1 ≤ mostR 1 (w.cost.take k) ∧ mostR 1 (w.cost.take k) ≤ 1000 := by
  constructor
  · exact (mostR_iff.1 (Int.le_refl (mostR 1 (w.cost.take k)))).1
  · refine mostR_iff.2 ⟨by omega, fun r hr x hx => ?_⟩
    obtain ⟨v, hv, rfl⟩ := mem_gl (List.mem_of_mem_take hr)
    obtain ⟨j, hj, rfl⟩ := mem_gi hx
    have hv' : v < w.a.owner.length := by have := h.sh.cl; omega
    have := h.c1 v hv' j (by have := (h.sh.row v hv').1; omega)
    omega
theorem WMn.mW {w : Wt} (h : WMn w) : 1 ≤ mostW w ∧ mostW w ≤ 1000 := by
  have := h.most w.cost.length
  rwa [List.take_length] at this
theorem WMn.game {w : Wt} (h : WMn w) : (gmW w).Ok w.a.owner.length (mostW w) := by
  have key : ∀ v, v < w.a.owner.length → ∀ j, j < (gl w.a.next v).length → ((gi (gl w.cost v) j).natAbs : Int) ≤ mostW w := fun v hv j hj => by
    refine (mostR_iff.1 (Int.le_refl (mostR 1 w.cost))).2 (gl w.cost v) (List.mem_of_getElem? (gl_lt (by have := h.sh.cl; omega))) _ (List.mem_of_getElem? (gi_lt (by have := (h.sh.row v hv).1; omega)))
  refine ⟨fun v hv => (h.sh.row v hv).2.1, fun v hv j hj => ?_, fun v hv j hj => ?_, fun v hv j hj => ?_⟩
  · have := h.sh.to v hv j hj
    show (gi (gl w.a.next v) j).toNat < _
    omega
  · have := key v hv j hj
    show -mostW w ≤ gi (gl w.cost v) j
    omega
  · have := key v hv j hj
    show gi (gl w.cost v) j ≤ mostW w
    omega
theorem optB_bd {mx : Bool} {f : Nat → Int} {X : Int} : ∀ {k : Nat}, 1 ≤ k → (∀ j, j < k → -X ≤ f j ∧ f j ≤ X) → -X ≤ MV.optB mx f k ∧ MV.optB mx f k ≤ X := fun {k} hk h => by
  obtain ⟨j, hj, he⟩ := MV.optB_ex mx f k hk
  rw [he]
  exact h j hj
theorem WMn.pay {w : Wt} (h : WMn w) : ∀ (k v : Nat), v < w.a.owner.length → -(k * mostW w) ≤ (gmW w).pay k v ∧ (gmW w).pay k v ≤ k * mostW w
  | 0, v, hv => by show -((0 : Nat) * mostW w) ≤ 0 ∧ (0 : Int) ≤ (0 : Nat) * mostW w; simp
  | k + 1, v, hv => by
    have hg := h.game
    refine optB_bd (hg.deg v hv) fun j hj => ?_
    have h1 := hg.lo v hv j hj
    have h2 := hg.hi v hv j hj
    have h3 := h.pay k _ (hg.to v hv j hj)
    simp only [Int.natCast_add, Int.natCast_one, Int.add_mul, Int.one_mul]
    omega
theorem WMn.payB {w : Wt} (h : WMn w) {k v : Nat} (hv : v < w.a.owner.length) (hk : k ≤ 2048001) : -2048001000 ≤ (gmW w).pay k v ∧ (gmW w).pay k v ≤ 2048001000 := by
  have h1 := h.pay k v hv
  have h2 := h.mW
  have h3 : (k : Int) * mostW w ≤ 2048001 * 1000 := Int.mul_le_mul (by omega) h2.2 (by omega) (by omega)
  omega
def payL (w : Wt) (k : Nat) : List Int := (List.range w.a.owner.length).map ((gmW w).pay k)
theorem payL_len (w : Wt) (k : Nat) : (payL w k).length = w.a.owner.length := by simp [payL]
theorem payL_gi {w : Wt} {k v : Nat} (h : v < w.a.owner.length) : gi (payL w k) v = (gmW w).pay k v := by
  unfold gi payL
  rw [List.getD_eq_getElem?_getD, List.getElem?_map, List.getElem?_range h]
  rfl
theorem payL_0 (w : Wt) : payL w 0 = List.replicate w.a.owner.length 0 := by
  refine List.ext_getElem? fun i => ?_
  unfold payL
  rw [List.getElem?_map, List.getElem?_replicate]
  split
  · rename_i h; rw [List.getElem?_range h]; rfl
  · rename_i h; rw [List.getElem?_eq_none (by simp; omega)]; rfl
theorem gi_ext3 {a b : List Int} (hl : a.length = b.length) (h : ∀ v, v < a.length → gi a v = gi b v) : a = b := by
  refine List.ext_getElem? fun i => ?_
  by_cases hi : i < a.length
  · rw [gi_lt hi, gi_lt (by omega), h i hi]
  · rw [List.getElem?_eq_none (by omega), List.getElem?_eq_none (by omega)]
theorem payL_ext {w : Wt} {k : Nat} {z : List Int} (hl : z.length = w.a.owner.length) (h : ∀ u, u < w.a.owner.length → gi z u = (gmW w).pay k u) : z = payL w k :=
  gi_ext3 (by rw [payL_len, hl]) fun v hv => by rw [h v (by omega), payL_gi (by omega)]
def edgeV (w : Wt) (k v j : Nat) : Int := gi (gl w.cost v) j + (gmW w).pay k (gi (gl w.a.next v) j).toNat
theorem pay_s (w : Wt) (k v : Nat) : (gmW w).pay (k + 1) v = MV.optB (decide (gi w.a.owner v = 0)) (edgeV w k v) (gl w.a.next v).length := rfl
theorem edge_bd {w : Wt} (h : WMn w) {k v j : Nat} (hv : v < w.a.owner.length) (hj : j < (gl w.a.next v).length) (hk : k ≤ 2048001) : -2048002000 ≤ edgeV w k v j ∧ edgeV w k v j ≤ 2048002000 := by
  have h1 := h.payB (h.game.to v hv j hj) hk
  have h2 := h.c1 v hv j hj
  unfold edgeV
  show -2048002000 ≤ gi (gl w.cost v) j + (gmW w).pay k ((gmW w).to v j) ∧ gi (gl w.cost v) j + (gmW w).pay k ((gmW w).to v j) ≤ 2048002000
  omega
def valF (w : Wt) (v : Nat) : Fr := frOf ((gmW w).val w.a.owner.length v).1 ((gmW w).val w.a.owner.length v).2
def meansL (w : Wt) : List Fr := (List.range w.a.owner.length).map (valF w)
theorem meansL_len (w : Wt) : (meansL w).length = w.a.owner.length := by simp [meansL]
def meansT (w : Wt) (k : Nat) : List Fr := (List.range k).map (valF w)
theorem meansT_len (w : Wt) (k : Nat) : (meansT w k).length = k := by simp [meansT]
theorem meansT_s (w : Wt) (k : Nat) : meansT w (k + 1) = meansT w k ++ [valF w k] := by simp [meansT, List.range_succ]
theorem mul_bd {x q X Q : Int} (h : -X ≤ x ∧ x ≤ X) (hq : -Q ≤ q ∧ q ≤ Q) (hX : 0 ≤ X) (hQ : 0 ≤ Q) : -(X * Q) ≤ x * q ∧ x * q ≤ X * Q := by
  have h1 : (x * q).natAbs ≤ X.natAbs * Q.natAbs := by
    rw [Int.natAbs_mul]
    exact Nat.mul_le_mul (by omega) (by omega)
  have h2 : ((X.natAbs * Q.natAbs : Nat) : Int) = X * Q := by
    rw [Int.natCast_mul]
    congr 1 <;> omega
  omega
set_option maxRecDepth 20000 in
set_option maxHeartbeats 4000000 in
theorem MaxM_fn (r : List Int) (h : 1 ≤ r.length) (h2 : r.length ≤ 1048576) : Fn Try.prog tyT 119 [.c (DI r)] [.c (.int .i64 (maxI (gi r 0) r))] := by
  refine Fn_of (fn := Try.f119) (ts := [2]) Try.func119 (by kernel_rfl) rfl rfl (by rw [Try.ntmps119]; exact Nat.le_of_ble_eq_true rfl) rfl (by simp only [szA, List.mem_cons, List.not_mem_nil, or_false, forall_eq_or_imp, forall_eq, VT.cells, szL]; try decide) ?_
  rw [Try.ntmps119]
  simp only [push_cast, ↓brB_true, ↓brB_false, ↓reduceIte, zA, zB, zC, zD, zE, zF, zG, zH, zI, reduceCtorEq]
  refine awp_seq' fun K hK => ?_
  refine awp_region tyOk tyPos [] rfl ?_
  simp only [push_cast, ↓brB_true, ↓brB_false, ↓reduceIte, zA, zB, zC, zD, zE, zF, zG, zH, zI, reduceCtorEq]
  repeat' apply And.intro
  all_goals try exact gB
  all_goals first | (refine hK _ ?_; clear hK K) | (simp only [push_cast]; done)
  refine awp_seq' fun K1 hK1 => ?_
  refine awp_seq' fun K hK => ?_
  refine awp_region tyOk tyPos [] rfl ?_
  simp only [push_cast, ↓brB_true, ↓brB_false, ↓reduceIte, zA, zB, zC, zD, zE, zF, zG, zH, zI, reduceCtorEq]
  repeat' apply And.intro
  all_goals try exact gB
  all_goals first | (refine hK _ ?_; clear hK K) | (simp only [push_cast]; done)
  refine awp_cond rfl (fun hc => ?_) (fun hc => ?_)
  skip
  · exfalso; first | (cases hc; done) | (simp only [push_cast] at hc; done) | (simp only [push_cast] at hc; omega) | omega
  refine awp_skip ?_
  (try simp only [AThen, ABlk, reduceIte, zF]); refine hK1 _ ?_
  refine awp_seq' fun K hK => ?_
  refine awp_region tyOk tyPos [] rfl ?_
  simp only [push_cast, ↓brB_true, ↓brB_false, ↓reduceIte, zA, zB, zC, zD, zE, zF, zG, zH, zI, reduceCtorEq]
  repeat' apply And.intro
  all_goals try exact gB
  all_goals first | (refine hK _ ?_; clear hK K) | (simp only [push_cast]; done)
  refine awp_seq' fun K2 hK2 => ?_
  refine awp_seq' fun K hK => ?_
  refine awp_region tyOk tyPos [] rfl ?_
  simp only [push_cast, ↓brB_true, ↓brB_false, ↓reduceIte, zA, zB, zC, zD, zE, zF, zG, zH, zI, reduceCtorEq]
  repeat' apply And.intro
  all_goals try exact gB
  all_goals first | (refine hK _ ?_; clear hK K) | (simp only [push_cast]; done)
  refine awp_block ?_
  refine awp_loopU [3,4,12,13,14,15,16,17,18,19,20,21,22,23] [] (fun (k : Nat) => [(4, .int .i64 k), (3, .int .i64 (maxI (gi r 0) (r.take k)))]) (fun k => []) (fun k => []) (fun k => 1 ≤ k ∧ k ≤ r.length) (fun k => r.length - k) 1 ?_ (by omega) ?_
  ·
    rw [maxI_take (by omega), List.take_zero, show maxI (gi r 0) [] = gi r 0 from rfl, if_neg (by omega)]
    refine cov_of rfl ?_ ?_ ?_ <;> simp only [covS, covL, push_cast, ↓brB_true, ↓brB_false, ↓reduceIte, zA, zB, zC, zD, zE, zF, zG, zH, zI, reduceCtorEq]
  · rintro k ⟨hk1, hk⟩ KL0 hL0
    simp only [push_cast, ↓brB_true, ↓brB_false, ↓reduceIte, zA, zB, zC, zD, zE, zF, zG, zH, zI, reduceCtorEq]
    refine awp_seq' fun K3 hK3 => ?_
    refine awp_seq' fun K hK => ?_
    refine awp_region tyOk tyPos [] rfl ?_
    simp only [push_cast, ↓brB_true, ↓brB_false, ↓reduceIte, zA, zB, zC, zD, zE, zF, zG, zH, zI, reduceCtorEq]
    repeat' apply And.intro
    all_goals try exact gB
    all_goals first | (refine hK _ ?_; clear hK K) | (simp only [push_cast]; done)
    refine awp_cond rfl (fun hc => ?_) (fun hc => ?_) <;> (try simp only [push_cast] at hc)
    ·
      refine awp_skip ?_
      (try simp only [AThen, ABlk, reduceIte, zF]); refine hK3 _ ?_
      refine awp_seq' fun K4 hK4 => ?_
      refine awp_block ?_
      refine awp_region tyOk tyPos [] rfl ?_
      simp only [push_cast, ↓brB_true, ↓brB_false, ↓reduceIte, zA, zB, zC, zD, zE, zF, zG, zH, zI, reduceCtorEq]
      repeat' apply And.intro
      all_goals try exact gB
      (try simp only [AThen, ABlk, reduceIte, zF]); refine hK4 _ ?_
      refine awp_region tyOk tyPos [] rfl ?_
      simp only [push_cast, ↓brB_true, ↓brB_false, ↓reduceIte, zA, zB, zC, zD, zE, zF, zG, zH, zI, reduceCtorEq]
      repeat' apply And.intro
      all_goals try exact gB
      refine hL0 _ ⟨k + 1, by omega, by omega, ?_⟩
      rw [maxI_take (by omega)]
      refine cov_of rfl ?_ ?_ ?_ <;> simp only [covS, covL, push_cast, ↓brB_true, ↓brB_false, ↓reduceIte, zA, zB, zC, zD, zE, zF, zG, zH, zI, reduceCtorEq]
    ·
      refine awp_exit ?_
      (try simp only [AThen, ABlk, reduceIte, zF]); refine hK2 _ ?_
      refine awp_seq' fun K hK => ?_
      refine awp_region tyOk tyPos [] rfl ?_
      simp only [push_cast, ↓brB_true, ↓brB_false, ↓reduceIte, zA, zB, zC, zD, zE, zF, zG, zH, zI, reduceCtorEq]
      repeat' apply And.intro
      all_goals try exact gB
      all_goals first | (refine hK _ ?_; clear hK K) | (simp only [push_cast]; done)
      refine awp_ret ?_
      (try simp only [AThen, ABlk])
      refine ⟨Or.inl rfl, ?_⟩
      simp only [RetOk, push_cast, ↓brB_true, ↓brB_false, ↓reduceIte, zA, zB, zC, zD, zE, zF, zG, zH, zI, reduceCtorEq]
      rw [show k = r.length from by omega, List.take_length]
structure NearM (x S n W p q : Int) : Prop where
  n1 : 1 ≤ n
  n8 : n ≤ 8
  w1 : 1 ≤ W
  w2 : W ≤ 1000
  q1 : 1 ≤ q
  q2 : q ≤ n
  up : q * x ≤ S * p + 2 * ((n - 1) * (q * W))
  lo : S * p - 2 * ((n - 1) * (q * W)) ≤ q * x
theorem nW_bd {n W : Int} (n1 : 1 ≤ n) (n8 : n ≤ 8) (w1 : 1 ≤ W) (w2 : W ≤ 1000) : (1 ≤ n * n ∧ n * n ≤ 64) ∧ (1 ≤ n * n * n ∧ n * n * n ≤ 512) ∧ (1 ≤ n * n * n * W ∧ n * n * n * W ≤ 512000) ∧ (1 ≤ n * W ∧ n * W ≤ 8000) := by
  have a1 : n * n ≤ 8 * 8 := Int.mul_le_mul n8 n8 (by omega) (by omega)
  have b1 : 1 * 1 ≤ n * n := Int.mul_le_mul n1 n1 (by omega) (by omega)
  have a2 : n * n * n ≤ 64 * 8 := Int.mul_le_mul (by omega) n8 (by omega) (by omega)
  have b2 : 1 * 1 ≤ n * n * n := Int.mul_le_mul (by omega) n1 (by omega) (by omega)
  have a3 : n * n * n * W ≤ 512 * 1000 := Int.mul_le_mul (by omega) w2 (by omega) (by omega)
  have b3 : 1 * 1 ≤ n * n * n * W := Int.mul_le_mul (by omega) w1 (by omega) (by omega)
  have a4 : n * W ≤ 8 * 1000 := Int.mul_le_mul n8 w2 (by omega) (by omega)
  have b4 : 1 * 1 ≤ n * W := Int.mul_le_mul n1 w1 (by omega) (by omega)
  omega
theorem nf_accept {x S n W p q : Int} (h : NearM x S n W p q) (hS : S = 4 * (n * n * n * W) + 1) {d k : Int} (hk : 1 ≤ k) (hk2 : k ≤ n) (h1 : x * k - d * S ≤ 2 * n * W * k) (h2 : -(x * k - d * S) ≤ 2 * n * W * k) : frOf d k = frOf p q := by
  subst hS
  exact MV.accept_same h.n1 h.w1 hk hk2 h.q1 h.q2 h1 (by omega) h.up h.lo
theorem nf_mean {x S n W p q : Int} (h : NearM x S n W p q) (hS : S = 4 * (n * n * n * W) + 1) : (x * q - p * S ≤ 2 * n * W * q ∧ -(x * q - p * S) ≤ 2 * n * W * q) ∧ (x * q).tdiv S - 1 ≤ p ∧ p ≤ (x * q).tdiv S + 1 := by
  subst hS
  have := MV.accept_mean h.n1 h.w1 h.q1 h.q2 h.up h.lo
  refine ⟨⟨this.1.1, by have := this.1.2; omega⟩, this.2⟩
def rndN (x S q : Int) : Int := (2 * x * q + S) / (2 * S)
def dstN' (x S q : Int) : Int := ((x * q - rndN x S q * S).natAbs : Int)
set_option maxRecDepth 20000 in
set_option maxHeartbeats 4000000 in
theorem nearestFrac_fn (x S n e W p0 q0 : Int) (hN : NearM x S n W p0 q0) (hx : -3000000000 ≤ x ∧ x ≤ 3000000000) (hS : S = 4 * (n * n * n * W) + 1) (he : e = 2 * n * W) : Fn Try.prog tyT 120 [.c (.int .i64 x), .c (.int .i64 S), .c (.int .i64 n), .c (.int .i64 e)] [.agg (dFr (frOf p0 q0))] := by
  have hb := nW_bd hN.n1 hN.n8 hN.w1 hN.w2
  have hn1 := hN.n1
  have hn8 := hN.n8
  have hq1 := hN.q1
  have hq2 := hN.q2
  have hS2 : 1 ≤ S ∧ S ≤ 2048001 := by omega
  have he2 : 0 ≤ e ∧ e ≤ 16000 := by rw [he, Int.mul_assoc]; omega
  have hm := nf_mean hN hS
  have hac := fun d k hk hk2 => nf_accept hN hS (d := d) (k := k) hk hk2
  rw [← he] at hm hac
  have hF := fracOf_fn
  unfold dFr at hF ⊢
  refine Fn_ofR (fn := Try.f120) (rs := [.cell 8 50]) tyOk tyPos Try.func120 (by kernel_rfl) rfl rfl (by rw [Try.ntmps120]; exact Nat.le_of_ble_eq_true rfl) rfl (by simp only [szA, List.mem_cons, List.not_mem_nil, or_false, forall_eq_or_imp, forall_eq, VT.cells, szL]; try decide) ?_
  rw [Try.ntmps120]
  simp only [push_cast, ↓brB_true, ↓brB_false, ↓reduceIte, zA, zB, zC, zD, zE, zF, zG, zH, zI, reduceCtorEq]
  refine awp_seq' fun K hK => ?_
  refine awp_region tyOk tyPos [] rfl ?_
  all_goals simp only [push_cast, ↓brB_true, ↓brB_false, ↓reduceIte, zA, zB, zC, zD, zE, zF, zG, zH, zI, reduceCtorEq]
  all_goals repeat' (first | (apply brB_mk <;> (intro hg; (try simp only [push_cast] at hg))) | apply And.intro | (intro hg; (try simp only [push_cast] at hg)))
  all_goals first | exact gA | (intro h0; omega) | skip
  all_goals first | (refine hK _ ?_; clear hK K) | (simp only [push_cast]; done)
  refine awp_seq' fun K1 hK1 => ?_
  refine awp_seq' fun K hK => ?_
  refine awp_region tyOk tyPos [] rfl ?_
  all_goals simp only [push_cast, ↓brB_true, ↓brB_false, ↓reduceIte, zA, zB, zC, zD, zE, zF, zG, zH, zI, reduceCtorEq]
  all_goals repeat' (first | (apply brB_mk <;> (intro hg; (try simp only [push_cast] at hg))) | apply And.intro | (intro hg; (try simp only [push_cast] at hg)))
  all_goals first | exact gA | (intro h0; omega) | skip
  all_goals first | (refine hK _ ?_; clear hK K) | (simp only [push_cast]; done)
  refine awp_block ?_
  refine awp_loopU [9,10,11,12,13,14,15,16,17,18,19,20,21,22,23,24,25,26,27,28,29,30,31,32,33,34,35,36,37,38,39,40,41,42,43,44,45,46,47,48,49,50,51,52,53] [] (fun (q : Int) => [(9, .int .i64 q)]) (fun q => []) (fun q => []) (fun q => 1 ≤ q ∧ q ≤ q0) (fun q => (q0 - q).toNat) 1 ?_ ⟨by omega, by omega⟩ ?_
  ·
    refine cov_of rfl ?_ ?_ ?_ <;> simp only [covS, covL, push_cast, ↓brB_true, ↓brB_false, ↓reduceIte, zA, zB, zC, zD, zE, zF, zG, zH, zI, reduceCtorEq]
  · rintro q ⟨hk1, hk2⟩ KL0 hL0
    have hb1 := mul_bd (x := x) (q := q) (X := 3000000000) (Q := 8) hx (by omega) (by omega) (by omega)
    have hb2 := mul_bd (x := e) (q := q) (X := 16000) (Q := 8) (by omega) (by omega) (by omega) (by omega)
    have hb3 := tdiv_bd (B := 24000000000) S (by omega : -24000000000 ≤ x * q ∧ x * q ≤ 24000000000)
    simp only [push_cast, ↓brB_true, ↓brB_false, ↓reduceIte, zA, zB, zC, zD, zE, zF, zG, zH, zI, reduceCtorEq]
    refine awp_seq' fun K2 hK2 => ?_
    refine awp_seq' fun K hK => ?_
    refine awp_region tyOk tyPos [] rfl ?_
    all_goals simp only [push_cast, ↓brB_true, ↓brB_false, ↓reduceIte, zA, zB, zC, zD, zE, zF, zG, zH, zI, reduceCtorEq]
    all_goals repeat' (first | (apply brB_mk <;> (intro hg; (try simp only [push_cast] at hg))) | apply And.intro | (intro hg; (try simp only [push_cast] at hg)))
    all_goals first | exact gA | (intro h0; omega) | skip
    all_goals first | (refine hK _ ?_; clear hK K) | (simp only [push_cast]; done)
    refine awp_cond rfl (fun hc => ?_) (fun hc => ?_)
    rotate_left
    · exfalso; first | (cases hc; done) | (simp only [push_cast] at hc; done) | (simp only [push_cast] at hc; omega) | omega
    refine awp_skip ?_
    (try simp only [AThen, ABlk, reduceIte, zF]); refine hK2 _ ?_
    refine awp_seq' fun K3 hK3 => ?_
    refine awp_block ?_
    refine awp_seq' fun K hK => ?_
    refine awp_region tyOk tyPos [] rfl ?_
    all_goals simp only [push_cast, ↓brB_true, ↓brB_false, ↓reduceIte, zA, zB, zC, zD, zE, zF, zG, zH, zI, reduceCtorEq]
    all_goals repeat' (first | (apply brB_mk <;> (intro hg; (try simp only [push_cast] at hg))) | apply And.intro | (intro hg; (try simp only [push_cast] at hg)))
    all_goals first | exact gA | (intro h0; omega) | skip
    all_goals first | (refine hK _ ?_; clear hK K) | (simp only [push_cast]; done)
    refine awp_seq' fun K hK => ?_
    refine awp_region tyOk tyPos [] rfl ?_
    all_goals simp only [push_cast, ↓brB_true, ↓brB_false, ↓reduceIte, zA, zB, zC, zD, zE, zF, zG, zH, zI, reduceCtorEq]
    all_goals repeat' (first | (apply brB_mk <;> (intro hg; (try simp only [push_cast] at hg))) | apply And.intro | (intro hg; (try simp only [push_cast] at hg)))
    all_goals first | exact gA | (intro h0; omega) | skip
    all_goals first | (refine hK _ ?_; clear hK K) | (simp only [push_cast]; done)
    refine awp_block ?_
    obtain ⟨P, hP⟩ : ∃ P, P = (x * q).tdiv S := ⟨_, rfl⟩
    rw [← hP] at hb3 ⊢
    have hst : q = q0 → P - 1 ≤ p0 ∧ p0 ≤ P + 1 := fun h9 => by rw [hP, h9]; exact hm.2
    refine awp_loopU [11,12,25,26,27,28,29,30,31,32,33,34,35,36,37,38,39,40,41,42,43,44,45,46,47,48,49,50,51,52,53] [] (fun (d : Int) => [(11, .int .i64 d)]) (fun d => []) (fun d => []) (fun d => P - 1 ≤ d ∧ d ≤ P + 2 ∧ (q = q0 → d ≤ p0)) (fun d => (P + 2 - d).toNat) (P - 1) ?_ ⟨by omega, by omega, fun h9 => (hst h9).1⟩ ?_
    ·
      refine cov_of rfl ?_ ?_ ?_ <;> simp only [covS, covL, push_cast, ↓brB_true, ↓brB_false, ↓reduceIte, zA, zB, zC, zD, zE, zF, zG, zH, zI, reduceCtorEq]
    · rintro d ⟨hd1, hd2, hd3⟩ KL1 hL1
      have hb4 := mul_bd (x := d) (q := S) (X := 24000000002) (Q := 2048001) (by omega) (by omega) (by omega) (by omega)
      simp only [push_cast, ↓brB_true, ↓brB_false, ↓reduceIte, zA, zB, zC, zD, zE, zF, zG, zH, zI, reduceCtorEq]
      refine awp_seq' fun K4 hK4 => ?_
      refine awp_seq' fun K hK => ?_
      refine awp_region tyOk tyPos [] rfl ?_
      all_goals simp only [push_cast, ↓brB_true, ↓brB_false, ↓reduceIte, zA, zB, zC, zD, zE, zF, zG, zH, zI, reduceCtorEq]
      all_goals repeat' (first | (apply brB_mk <;> (intro hg; (try simp only [push_cast] at hg))) | apply And.intro | (intro hg; (try simp only [push_cast] at hg)))
      all_goals first | exact gA | (intro h0; omega) | skip
      all_goals first | (refine hK _ ?_; clear hK K) | (simp only [push_cast]; done)
      refine awp_cond rfl (fun hc => ?_) (fun hc => ?_) <;> (try simp only [push_cast] at hc)
      ·
        refine awp_skip ?_
        (try simp only [AThen, ABlk, reduceIte, zF]); refine hK4 _ ?_
        refine awp_seq' fun K5 hK5 => ?_
        refine awp_block ?_
        refine awp_seq' fun K hK => ?_
        refine awp_region tyOk tyPos [] rfl ?_
        all_goals simp only [push_cast, ↓brB_true, ↓brB_false, ↓reduceIte, zA, zB, zC, zD, zE, zF, zG, zH, zI, reduceCtorEq]
        all_goals repeat' (first | (apply brB_mk <;> (intro hg; (try simp only [push_cast] at hg))) | apply And.intro | (intro hg; (try simp only [push_cast] at hg)))
        all_goals first | exact gA | (intro h0; omega) | skip
        all_goals first | (refine hK _ ?_; clear hK K) | (simp only [push_cast]; done)
        refine awp_seq' fun K hK => ?_
        refine awp_regionN false tyOk tyPos ?_ rfl ?_
        · kernel_rfl
        all_goals simp only [push_cast, ↓brB_true, ↓brB_false, ↓reduceIte, zA, zB, zC, zD, zE, zF, zG, zH, zI, reduceCtorEq]
        all_goals repeat' (first | (apply brB_mk <;> (intro hg; (try simp only [push_cast] at hg))) | apply And.intro | (intro hg; (try simp only [push_cast] at hg)))
        all_goals first | exact gA | (intro h0; omega) | skip
        all_goals first | (refine hK _ ?_; clear hK K) | (simp only [push_cast]; done)
        all_goals refine awp_cond rfl (fun hc => ?_) (fun hc => ?_)
        all_goals (first | (cases hc; done) | skip)
        all_goals (try simp only [push_cast] at hc)
        all_goals first
          | (
              refine awp_skip ?_
              (try simp only [AThen, ABlk, reduceIte, zF]); refine hK5 _ ?_
              refine awp_region tyOk tyPos [] rfl ?_
              all_goals simp only [push_cast, ↓brB_true, ↓brB_false, ↓reduceIte, zA, zB, zC, zD, zE, zF, zG, zH, zI, reduceCtorEq]
              all_goals repeat' (first | (apply brB_mk <;> (intro hg; (try simp only [push_cast] at hg))) | apply And.intro | (intro hg; (try simp only [push_cast] at hg)))
              all_goals first | exact gA | (intro h0; omega) | skip
              refine hL1 _ ⟨d + 1, ⟨by omega, by omega, fun h9 => (by
                  have h8 := hd3 h9
                  have h7 := (hst h9).2
                  by_cases h6 : d = p0
                  · exfalso
                    have h5 := hm.1
                    rw [← h9, ← h6] at h5
                    omega
                  · omega)⟩, by omega, ?_⟩
              refine cov_of rfl ?_ ?_ ?_ <;> simp only [covS, covL, push_cast, ↓brB_true, ↓brB_false, ↓reduceIte, zA, zB, zC, zD, zE, zF, zG, zH, zI, reduceCtorEq]
              done)
          | (
              refine awp_seq' fun K hK => ?_
              refine awp_region tyOk tyPos [] rfl ?_
              all_goals refine aops_cut 3 fun K9 hK9 => ?_
              all_goals simp only [push_cast, ↓brB_true, ↓brB_false, ↓reduceIte, zA, zB, zC, zD, zE, zF, zG, zH, zI, reduceCtorEq]
              all_goals repeat' (first | (apply brB_mk <;> (intro hg; (try simp only [push_cast] at hg))) | (refine ⟨_, hF d q (by omega) (by omega), ?_⟩; simp only [push_cast, ↓brB_true, ↓brB_false, ↓reduceIte, zA, zB, zC, zD, zE, zF, zG, zH, zI, reduceCtorEq]) | apply And.intro | (intro hg; (try simp only [push_cast] at hg)))
              all_goals first | exact gA | (intro h0; omega) | skip
              all_goals first | (refine hK9 _ ?_; clear hK9 K9) | (simp only [push_cast]; done)
              all_goals simp only [push_cast, ↓brB_true, ↓brB_false, ↓reduceIte, zA, zB, zC, zD, zE, zF, zG, zH, zI, reduceCtorEq]
              all_goals repeat' (first | (apply brB_mk <;> (intro hg; (try simp only [push_cast] at hg))) | (refine ⟨_, hF d q (by omega) (by omega), ?_⟩; simp only [push_cast, ↓brB_true, ↓brB_false, ↓reduceIte, zA, zB, zC, zD, zE, zF, zG, zH, zI, reduceCtorEq]) | apply And.intro | (intro hg; (try simp only [push_cast] at hg)))
              all_goals first | exact gA | (intro h0; omega) | skip
              all_goals first | (refine hK _ ?_; clear hK K) | (simp only [push_cast]; done)
              refine awp_ret ?_
              (try simp only [AThen, ABlk])
              refine ⟨Or.inl rfl, ?_⟩
              simp only [RetOk, resVars, resVar, push_cast, ↓brB_true, ↓brB_false, ↓reduceIte, zA, zB, zC, zD, zE, zF, zG, zH, zI, reduceCtorEq]
              all_goals (rw [← hac d q (by omega) (by omega) (by omega) (by omega)]; first | rfl | exact ⟨rfl, rfl⟩ | (simp; done))
              done)
      ·
        refine awp_exit ?_
        have hne : q ≠ q0 := fun h9 => by have h8 := hd3 h9; have h7 := (hst h9).2; omega
        (try simp only [AThen, ABlk, reduceIte, zF]); refine hK3 _ ?_
        refine awp_region tyOk tyPos [] rfl ?_
        all_goals simp only [push_cast, ↓brB_true, ↓brB_false, ↓reduceIte, zA, zB, zC, zD, zE, zF, zG, zH, zI, reduceCtorEq]
        all_goals repeat' (first | (apply brB_mk <;> (intro hg; (try simp only [push_cast] at hg))) | apply And.intro | (intro hg; (try simp only [push_cast] at hg)))
        all_goals first | exact gA | (intro h0; omega) | skip
        refine hL0 _ ⟨q + 1, ⟨by omega, by omega⟩, by omega, ?_⟩
        refine cov_of rfl ?_ ?_ ?_ <;> simp only [covS, covL, push_cast, ↓brB_true, ↓brB_false, ↓reduceIte, zA, zB, zC, zD, zE, zF, zG, zH, zI, reduceCtorEq]
structure BestN (x S q bn bd off : Int) : Prop where
  first : q = 1 → bn = 0 ∧ bd = 0 ∧ off = 0
  pos : q ≠ 1 → 1 ≤ bd ∧ bd < q ∧ bn = rndN x S bd ∧ off = dstN' x S bd ∧ ∀ k, 1 ≤ k → k < q → off * k ≤ dstN' x S k * bd
theorem BestN.take {x S q bn bd off : Int} (h : BestN x S q bn bd off) (hq : 1 ≤ q) (hc : bd = 0 ∨ dstN' x S q * bd < off * q) : BestN x S (q + 1) (rndN x S q) q (dstN' x S q) := by
  refine ⟨fun h9 => by omega, fun _ => ⟨hq, by omega, rfl, rfl, fun k h1 h2 => ?_⟩⟩
  rcases Int.lt_trichotomy k q with h3 | h3 | h3
  · have hn1 : q ≠ 1 := by omega
    obtain ⟨p1, p2, p3, p4, p5⟩ := h.pos hn1
    have hc' : dstN' x S q * bd < off * q := by
      rcases hc with h0 | h0
      · omega
      · exact h0
    have h5 := p5 k h1 h3
    -- dst q / q < off / bd ≤ dst k / k
    have a1 : (dstN' x S q * bd) * k ≤ (off * q) * k := Int.mul_le_mul_of_nonneg_right (by omega) (by omega)
    have a2 : (off * k) * q ≤ (dstN' x S k * bd) * q := Int.mul_le_mul_of_nonneg_right h5 (by omega)
    have e1 : (dstN' x S q * bd) * k = (dstN' x S q * k) * bd := by ac_rfl
    have e2 : (off * q) * k = (off * k) * q := by ac_rfl
    have e3 : (dstN' x S k * bd) * q = (dstN' x S k * q) * bd := by ac_rfl
    rw [e1, e2] at a1
    rw [e3] at a2
    exact Int.le_of_mul_le_mul_right (Int.le_trans a1 a2) (by omega)
  · subst h3; exact Int.le_refl _
  · omega
theorem BestN.keep {x S q bn bd off : Int} (h : BestN x S q bn bd off) (hq : 1 ≤ q) (hc : ¬ bd = 0) (hc2 : ¬ dstN' x S q * bd < off * q) : BestN x S (q + 1) bn bd off := by
  have hn1 : q ≠ 1 := fun e => hc (h.first e).2.1
  obtain ⟨p1, p2, p3, p4, p5⟩ := h.pos hn1
  refine ⟨fun h9 => by omega, fun _ => ⟨p1, by omega, p3, p4, fun k h1 h2 => ?_⟩⟩
  rcases Int.lt_or_le k q with h3 | h3
  · exact p5 k h1 h3
  · have : k = q := by omega
    subst this
    omega
end Go.Proofs.Ytdbecmmeifdafaa

namespace Go.Proofs.Ytdbecmmeifdafaa.MV
open Go.RowKit
set_option linter.unusedVariables false
set_option linter.unusedSimpArgs false

def Gm.en (g : Gm) : Nat → Nat → Int
  | 0, _ => 0
  | k + 1, v => optB (!g.mx v) (fun j => max 0 (g.en k (g.to v j) - g.c v j)) (g.deg v)
theorem Gm.en_x {g : Gm} {v : Nat} (h : g.mx v = true) (hd : 1 ≤ g.deg v) (k : Nat) : (∃ j, j < g.deg v ∧ g.en (k + 1) v = max 0 (g.en k (g.to v j) - g.c v j)) ∧ ∀ j, j < g.deg v → g.en (k + 1) v ≤ max 0 (g.en k (g.to v j) - g.c v j) := by
  have e : g.en (k + 1) v = optB false (fun j => max 0 (g.en k (g.to v j) - g.c v j)) (g.deg v) := by show optB (!g.mx v) _ _ = _; rw [h]; rfl
  rw [e]
  exact ⟨optB_ex _ _ _ hd, fun j hj => optB_min _ _ j hj⟩
theorem Gm.en_n {g : Gm} {v : Nat} (h : g.mx v = false) (hd : 1 ≤ g.deg v) (k : Nat) : (∃ j, j < g.deg v ∧ g.en (k + 1) v = max 0 (g.en k (g.to v j) - g.c v j)) ∧ ∀ j, j < g.deg v → max 0 (g.en k (g.to v j) - g.c v j) ≤ g.en (k + 1) v := by
  have e : g.en (k + 1) v = optB true (fun j => max 0 (g.en k (g.to v j) - g.c v j)) (g.deg v) := by show optB (!g.mx v) _ _ = _; rw [h]; rfl
  rw [e]
  exact ⟨optB_ex _ _ _ hd, fun j hj => optB_max _ _ j hj⟩
theorem Gm.pay_x {g : Gm} {v : Nat} (h : g.mx v = true) (hd : 1 ≤ g.deg v) (k : Nat) : (∃ j, j < g.deg v ∧ g.pay (k + 1) v = g.c v j + g.pay k (g.to v j)) ∧ ∀ j, j < g.deg v → g.c v j + g.pay k (g.to v j) ≤ g.pay (k + 1) v := by
  have e : g.pay (k + 1) v = optB true (fun j => g.c v j + g.pay k (g.to v j)) (g.deg v) := by show optB (g.mx v) _ _ = _; rw [h]
  rw [e]
  exact ⟨optB_ex _ _ _ hd, fun j hj => optB_max (fun j => g.c v j + g.pay k (g.to v j)) _ j hj⟩
theorem Gm.pay_n {g : Gm} {v : Nat} (h : g.mx v = false) (hd : 1 ≤ g.deg v) (k : Nat) : (∃ j, j < g.deg v ∧ g.pay (k + 1) v = g.c v j + g.pay k (g.to v j)) ∧ ∀ j, j < g.deg v → g.pay (k + 1) v ≤ g.c v j + g.pay k (g.to v j) := by
  have e : g.pay (k + 1) v = optB false (fun j => g.c v j + g.pay k (g.to v j)) (g.deg v) := by show optB (g.mx v) _ _ = _; rw [h]
  rw [e]
  exact ⟨optB_ex _ _ _ hd, fun j hj => optB_min (fun j => g.c v j + g.pay k (g.to v j)) _ j hj⟩
theorem Gm.en_mono {g : Gm} {n : Nat} {W : Int} (hg : g.Ok n W) : ∀ k v, v < n → 0 ≤ g.en k v ∧ g.en k v ≤ g.en (k + 1) v
  | 0, v, hv => by
    have hd := hg.deg v hv
    refine ⟨Int.le_refl _, ?_⟩
    show (0 : Int) ≤ _
    cases h : g.mx v
    · obtain ⟨j, hj, e⟩ := (Gm.en_n h hd 0).1; rw [e]; omega
    · obtain ⟨j, hj, e⟩ := (Gm.en_x h hd 0).1; rw [e]; omega
  | k + 1, v, hv => by
    have hd := hg.deg v hv
    have ih := Gm.en_mono hg k
    cases h : g.mx v
    · obtain ⟨j, hj, e⟩ := (Gm.en_n h hd k).1
      have h2 := (Gm.en_n h hd (k + 1)).2 j hj
      have h3 := ih _ (hg.to v hv j hj)
      omega
    · obtain ⟨j, hj, e⟩ := (Gm.en_x h hd (k + 1)).1
      have h2 := (Gm.en_x h hd k).2 j hj
      have h3 := ih _ (hg.to v hv j hj)
      obtain ⟨i, hi, e'⟩ := (Gm.en_x h hd k).1
      omega
theorem Gm.en_le {g : Gm} {n : Nat} {W : Int} (hg : g.Ok n W) {v : Nat} (hv : v < n) {i : Nat} : ∀ k, i ≤ k → g.en i v ≤ g.en k v
  | 0, h => by rw [show i = 0 by omega]; exact Int.le_refl _
  | k + 1, h => by
    rcases Nat.lt_or_ge i (k + 1) with h1 | h1
    · exact Int.le_trans (Gm.en_le hg hv k (by omega)) (Gm.en_mono hg k v hv).2
    · rw [show i = k + 1 by omega]; exact Int.le_refl _
theorem Gm.phase {g : Gm} {n : Nat} {W : Int} (hg : g.Ok n W) (hW : 0 ≤ W) {M : Int} (hM : 0 ≤ M) {U : Nat → Prop} (hU : ∀ v, v < n → ¬ U v → ∀ j, g.en j v ≤ M) {K : Nat} (hK : ∀ v, v < n → U v → M + W + 1 < g.en K v) :
    ∀ k u, u < n → U u → ∀ m : Nat, m * K ≤ k → g.pay k u ≤ K * W - m := by
  intro k
  induction k using Nat.strongRecOn with
  | ind k ih =>
    have Q : ∀ j, j ≤ K → ∀ k', k' ≤ k → ∀ u x, u < n → M + W + 1 ≤ x → x ≤ M + W + 1 + ((K - j : Nat) : Int) * W → x < g.en j u → ∀ m : Nat, m * K ≤ k' + (K - j) → g.pay k' u ≤ K * W - m + (M + W + 1 - x) := by
      intro j
      induction j with
      | zero => intro _ k' _ u x _ h1 _ h2; exact absurd h2 (by show ¬ x < 0; omega)
      | succ j ihj =>
        intro hjK k' hk' u x hu h1 h2 h3 m hm
        cases k' with
        | zero =>
          have hm0 : m = 0 := by
            rcases Nat.eq_zero_or_pos m with h | h
            · exact h
            · have : 1 * K ≤ m * K := Nat.mul_le_mul_right K h
              omega
          subst hm0
          have : ((K - (j + 1) : Nat) : Int) * W ≤ (K : Int) * W := Int.mul_le_mul_of_nonneg_right (by omega) hW
          show (0 : Int) ≤ _
          omega
        | succ k' =>
          have hd := hg.deg u hu
          have hedge : ∃ i, i < g.deg u ∧ g.pay (k' + 1) u ≤ g.c u i + g.pay k' (g.to u i) ∧ x + g.c u i < g.en j (g.to u i) := by
            cases hx : g.mx u
            · obtain ⟨i, hi, e⟩ := (Gm.en_n hx hd j).1
              exact ⟨i, hi, (Gm.pay_n hx hd k').2 i hi, by omega⟩
            · obtain ⟨i, hi, e⟩ := (Gm.pay_x hx hd k').1
              have := (Gm.en_x hx hd j).2 i hi
              exact ⟨i, hi, by omega, by omega⟩
          obtain ⟨i, hi, hp, hx⟩ := hedge
          have hlo := hg.lo u hu i hi
          have hhi := hg.hi u hu i hi
          have ht := hg.to u hu i hi
          have hW1 : ((K - j : Nat) : Int) * W = ((K - (j + 1) : Nat) : Int) * W + W := by
            rw [show ((K - j : Nat) : Int) = ((K - (j + 1) : Nat) : Int) + 1 by omega, Int.add_mul, Int.one_mul]
          rcases Int.lt_or_le (x + g.c u i) (M + W + 1) with h4 | h4
          · have hUt : U (g.to u i) := Classical.byContradiction fun hn => by
              have := hU _ ht hn j
              omega
            cases m with
            | zero =>
              have := ih k' (by omega) _ ht hUt 0 (by omega)
              omega
            | succ m =>
              have e : (m + 1) * K = m * K + K := Nat.succ_mul m K
              have := ih k' (by omega) _ ht hUt m (by omega)
              omega
          · have := ihj (by omega) k' (by omega) (g.to u i) (x + g.c u i) ht h4 (by omega) hx m (by omega)
            omega
    intro u hu hUu m hm
    have := Q K (Nat.le_refl _) k (Nat.le_refl _) u (M + W + 1) hu (Int.le_refl _) (by rw [Nat.sub_self]; simp) (hK u hu hUu) m (by omega)
    omega
theorem bounds_ex (E : Nat → Nat → Int) : ∀ n, ∃ M : Int, 0 ≤ M ∧ ∀ v, v < n → (∀ j, E j v ≤ M) ∨ ∀ X, ∃ j, X < E j v
  | 0 => ⟨0, Int.le_refl _, fun v hv => absurd hv (Nat.not_lt_zero v)⟩
  | n + 1 => by
    obtain ⟨M, h0, h⟩ := bounds_ex E n
    by_cases hb : ∃ X, ∀ j, E j n ≤ X
    · obtain ⟨X, hX⟩ := hb
      refine ⟨max M X, by omega, fun v hv => ?_⟩
      rcases Nat.lt_or_ge v n with h1 | h1
      · rcases h v h1 with h2 | h2
        · exact .inl fun j => by have := h2 j; omega
        · exact .inr h2
      · left; intro j; rw [show v = n by omega]; have := hX j; omega
    · refine ⟨M, h0, fun v hv => ?_⟩
      rcases Nat.lt_or_ge v n with h1 | h1
      · exact h v h1
      · right
        intro X
        rw [show v = n by omega]
        exact Classical.byContradiction fun hn => hb ⟨X, fun j => by
          rcases Int.lt_or_le X (E j n) with h2 | h2
          · exact absurd ⟨j, h2⟩ hn
          · exact h2⟩
theorem great_ex {E : Nat → Nat → Int} (X : Int) : ∀ n, (∀ v, v < n → ∀ i k, i ≤ k → E i v ≤ E k v) → ∃ K, ∀ v, v < n → (∀ X, ∃ j, X < E j v) → X < E K v
  | 0, _ => ⟨0, fun v hv => absurd hv (Nat.not_lt_zero v)⟩
  | n + 1, hm => by
    obtain ⟨K, h⟩ := great_ex X n fun v hv => hm v (by omega)
    by_cases hb : ∀ X, ∃ j, X < E j n
    · obtain ⟨j, hj⟩ := hb X
      refine ⟨max K j, fun v hv hX => ?_⟩
      rcases Nat.lt_or_ge v n with h1 | h1
      · exact Int.lt_of_lt_of_le (h v h1 hX) (hm v hv K _ (by omega))
      · rw [show v = n by omega]
        exact Int.lt_of_lt_of_le hj (hm n (by omega) j _ (by omega))
    · refine ⟨K, fun v hv hX => ?_⟩
      rcases Nat.lt_or_ge v n with h1 | h1
      · exact h v h1 hX
      · exact absurd (by rw [show v = n by omega] at hX; exact hX) hb
theorem still_one {E : Nat → Int} (hm : ∀ i k, i ≤ k → E i ≤ E k) {M : Int} (hM : ∀ j, E j ≤ M) : ∀ (m J0 : Nat), M - E J0 ≤ m → ∃ J, J0 ≤ J ∧ ∀ j, J ≤ j → E j = E J
  | 0, J0, h => ⟨J0, Nat.le_refl _, fun j hj => by have := hm J0 j hj; have := hM j; omega⟩
  | m + 1, J0, h => by
    by_cases hc : ∀ j, J0 ≤ j → E j = E J0
    · exact ⟨J0, Nat.le_refl _, hc⟩
    · obtain ⟨j, hj⟩ := Classical.not_forall.1 hc
      obtain ⟨h1, h2⟩ := Classical.not_imp.1 hj
      have h3 := hm J0 j h1
      obtain ⟨J, a, b⟩ := still_one hm hM m j (by omega)
      exact ⟨J, by omega, b⟩
theorem still_ex {E : Nat → Nat → Int} {M : Int} : ∀ n J0, (∀ v, v < n → ∀ i k, i ≤ k → E i v ≤ E k v) → ∃ J, J0 ≤ J ∧ ∀ v, v < n → (∀ j, E j v ≤ M) → ∀ j, J ≤ j → E j v = E J v
  | 0, J0, _ => ⟨J0, Nat.le_refl _, fun v hv => absurd hv (Nat.not_lt_zero v)⟩
  | n + 1, J0, hm => by
    obtain ⟨J, a, b⟩ := still_ex (M := M) n J0 fun v hv => hm v (by omega)
    by_cases hb : ∀ j, E j n ≤ M
    · obtain ⟨J', a', b'⟩ := still_one (hm n (by omega)) hb (M - E J n).toNat J (by omega)
      refine ⟨J', by omega, fun v hv hM j hj => ?_⟩
      rcases Nat.lt_or_ge v n with h1 | h1
      · rw [b v h1 hM j (by omega), b v h1 hM J' (by omega)]
      · rw [show v = n by omega]; exact b' j hj
    · refine ⟨J, a, fun v hv hM j hj => ?_⟩
      rcases Nat.lt_or_ge v n with h1 | h1
      · exact b v h1 hM j hj
      · exact absurd (by rw [show v = n by omega] at hM; exact hM) hb
end Go.Proofs.Ytdbecmmeifdafaa.MV

namespace Go.Proofs.Ytdbecmmeifdafaa
open Go.RowKit MV
set_option linter.unusedVariables false
set_option linter.unusedSimpArgs false

theorem gm_ok20 {w : Wt} (hw : WSh w) : (gmW w).Ok w.a.owner.length 20000 :=
  ⟨fun v hv => (hw.row v hv).2.1, fun v hv j hj => by have := hw.to v hv j hj; show (gi (gl w.a.next v) j).toNat < _; omega, fun v hv j hj => (hw.bd v hv j hj).1, fun v hv j hj => (hw.bd v hv j hj).2⟩
theorem gm_mx0 {w : Wt} {v : Nat} (h : gi w.a.owner v = 0) : (gmW w).mx v = true := decide_eq_true h
theorem gm_mx1 {w : Wt} {v : Nat} (h : gi w.a.owner v = 1) : (gmW w).mx v = false := decide_eq_false (by omega)
theorem pay_low {w : Wt} (hw : WSh w) {b : Int} (hb : 0 ≤ b) {c : List Int} (hL : Least w b c) : ∀ k v, v < w.a.owner.length → gi c v ≤ b → -gi c v ≤ (gmW w).pay k v
  | 0, v, hv, h => by have := (hL.rg v hv).1; show _ ≤ (0 : Int); omega
  | k + 1, v, hv, h => by
    have hr := hL.rg v hv
    have hd := (gm_ok20 hw).deg v hv
    have hs := (stepT_le hw hb hv hr.1 h).1 (hL.pre v hv)
    rcases hw.own v hv with e | e
    · obtain ⟨j, hj, e1, e2⟩ := hs.1 e
      have ih := pay_low hw hb hL k _ ((gm_ok20 hw).to v hv j hj) e1
      have h2 := (Gm.pay_x (gm_mx0 e) hd k).2 j hj
      have e3 : gi c ((gmW w).to v j) - (gmW w).c v j ≤ gi c v := e2
      omega
    · obtain ⟨j, hj, e3⟩ := (Gm.pay_n (gm_mx1 e) hd k).1
      obtain ⟨e1, e2⟩ := hs.2 e j hj
      have ih := pay_low hw hb hL k _ ((gm_ok20 hw).to v hv j hj) e1
      have e4 : gi c ((gmW w).to v j) - (gmW w).c v j ≤ gi c v := e2
      omega
theorem fin_of_pay {w : Wt} (hw : WSh w) {b : Int} (hb : boundW w ≤ b) {c : List Int} (hL : Least w b c) {v : Nat} (hv : v < w.a.owner.length) {M0 : Int} (h : ∀ k, -M0 ≤ (gmW w).pay k v) : gi c v ≤ b := by
  have hg := gm_ok20 hw
  have hb0 := hw.bound.1
  obtain ⟨M, hM, hdi⟩ := bounds_ex (gmW w).en w.a.owner.length
  have hmono : ∀ v, v < w.a.owner.length → ∀ i k, i ≤ k → (gmW w).en i v ≤ (gmW w).en k v := fun v hv i k hik => Gm.en_le hg hv k hik
  obtain ⟨K, hK⟩ := great_ex (M + 20000 + 1) w.a.owner.length hmono
  obtain ⟨J, hJK, hJ⟩ := still_ex (M := M) w.a.owner.length K hmono
  have hvb : ∀ j, (gmW w).en j v ≤ M := by
    rcases hdi v hv with h1 | h1
    · exact h1
    · exfalso
      have hp := Gm.phase hg (by decide) hM (U := fun v => ∀ X, ∃ j, X < (gmW w).en j v) (fun u hu hn => (hdi u hu).resolve_right hn) hK
      have h2 := hp ((K * 20000 + M0 + 1).toNat * K) v hv h1 _ (Nat.le_refl _)
      have h3 := h ((K * 20000 + M0 + 1).toNat * K)
      omega
  have hfin : ∀ u, u < w.a.owner.length → (gmW w).en J u ≤ M + 20000 → ∀ j, (gmW w).en j u ≤ M := fun u hu h1 => by
    rcases hdi u hu with h2 | h2
    · exact h2
    · have := hK u hu h2
      have := hmono u hu K J hJK
      omega
  have hbb : 0 ≤ max M (boundW w) := by omega
  obtain ⟨c2, L2⟩ := least_ex hw hbb
  generalize hB : max M (boundW w) = B at hbb L2
  have hBM : M ≤ B := by omega
  have hBb : boundW w ≤ B := by omega
  let d := tabL w.a.owner.length fun u => if (gmW w).en J u ≤ M then (gmW w).en J u else B + 1
  have hd : ∀ u, u < w.a.owner.length → gi d u = if (gmW w).en J u ≤ M then (gmW w).en J u else B + 1 := fun u hu => tabL_at hu
  have hpre : PreC w B d := by
    refine ⟨tabL_len _ _, fun u hu => ?_, fun u hu => ?_⟩
    · have := (Gm.en_mono hg J u hu).1
      rw [hd u hu]
      split <;> omega
    · rw [hd u hu]
      split
      · rename_i e
        have h0 := (Gm.en_mono hg J u hu).1
        have hs : (gmW w).en (J + 1) u = (gmW w).en J u := hJ u hu (hfin u hu (by omega)) (J + 1) (by omega)
        have hdg := hg.deg u hu
        have hed : ∀ j, j < (gl w.a.next u).length → (gmW w).en J ((gmW w).to u j) - (gmW w).c u j ≤ (gmW w).en J u → Ed w B d u j ((gmW w).en J u) := fun j hj he => by
          have ht := hg.to u hu j hj
          have hc := hg.hi u hu j hj
          have hf := hfin _ ht (by omega) J
          have e5 : gi d (toE w u j) = (gmW w).en J ((gmW w).to u j) := by
            show gi d ((gmW w).to u j) = _
            rw [hd _ ht, if_pos hf]
          unfold Ed
          rw [e5]
          exact ⟨by omega, he⟩
        refine (stepT_le hw hbb hu h0 (by omega)).2 ⟨fun e1 => ?_, fun e1 j hj => ?_⟩
        · obtain ⟨j, hj, e2⟩ := (Gm.en_x (gm_mx0 e1) hdg J).1
          exact ⟨j, hj, hed j hj (by omega)⟩
        · have := (Gm.en_n (gm_mx1 e1) hdg J).2 j hj
          exact hed j hj (by omega)
      · exact (stepT_rg hw hbb hu).2
  have h4 := L2.low d hpre v hv
  rw [hd v hv, if_pos (hvb J)] at h4
  have h5 := least_dec hw hb hBb hL L2 hv
  have h6 := hvb J
  have h7 := (L2.rg v hv).1
  unfold decB at h5
  split at h5 <;> split at h5 <;> omega
end Go.Proofs.Ytdbecmmeifdafaa

namespace Go.Proofs.Ytdbecmmeifdafaa
open Go.RowKit
set_option linter.unusedVariables false
set_option linter.unusedSimpArgs false

open MV (Gm)
theorem optB_1 (mx : Bool) (f : Nat → Int) : MV.optB mx f 1 = f 0 := rfl
theorem optB_up {mx : Bool} {f : Nat → Int} {k : Nat} (h : (mx = true ∧ f (k + 1) > MV.optB mx f (k + 1)) ∨ (mx = false ∧ f (k + 1) < MV.optB mx f (k + 1))) : MV.optB mx f (k + 2) = f (k + 1) := by
  rw [MV.optB_s, if_pos h]
theorem optB_no {mx : Bool} {f : Nat → Int} {k : Nat} (h : ¬ ((mx = true ∧ f (k + 1) > MV.optB mx f (k + 1)) ∨ (mx = false ∧ f (k + 1) < MV.optB mx f (k + 1)))) : MV.optB mx f (k + 2) = MV.optB mx f (k + 1) := by
  rw [MV.optB_s, if_neg h]
def bestK (w : Wt) (k v i : Nat) : Int := MV.optB (decide (gi w.a.owner v = 0)) (edgeV w k v) (max i 1)
theorem bestK_0 (w : Wt) (k v : Nat) : bestK w k v 0 = edgeV w k v 0 := rfl
theorem bestK_all {w : Wt} {k v : Nat} (h : 1 ≤ (gl w.a.next v).length) : bestK w k v (gl w.a.next v).length = (gmW w).pay (k + 1) v := by
  unfold bestK
  rw [pay_s, Nat.max_eq_left h]
theorem bestK_yes {w : Wt} {k v i : Nat} (hc : (gi w.a.owner v = 0 ∧ edgeV w k v i > bestK w k v i) ∨ (¬ gi w.a.owner v = 0 ∧ edgeV w k v i < bestK w k v i)) : bestK w k v (i + 1) = edgeV w k v i := by
  unfold bestK at hc ⊢
  cases i with
  | zero =>
    rw [show max 0 1 = 1 from rfl, optB_1] at hc
    omega
  | succ i =>
    rw [show max (i + 1) 1 = i + 1 from by omega] at hc
    rw [show max (i + 1 + 1) 1 = i + 2 from by omega]
    refine optB_up ?_
    by_cases h : gi w.a.owner v = 0
    · simp only [decide_eq_true h] at hc ⊢
      exact .inl ⟨trivial, by omega⟩
    · simp only [decide_eq_false h] at hc ⊢
      exact .inr ⟨trivial, by omega⟩
theorem bestK_no {w : Wt} {k v i : Nat} (hc : ¬ ((gi w.a.owner v = 0 ∧ edgeV w k v i > bestK w k v i) ∨ (¬ gi w.a.owner v = 0 ∧ edgeV w k v i < bestK w k v i))) : bestK w k v (i + 1) = bestK w k v i := by
  unfold bestK at hc ⊢
  cases i with
  | zero => rfl
  | succ i =>
    rw [show max (i + 1) 1 = i + 1 from by omega] at hc
    rw [show max (i + 1 + 1) 1 = i + 2 from by omega, show max (i + 1) 1 = i + 1 from by omega]
    refine optB_no fun h9 => hc ?_
    by_cases h : gi w.a.owner v = 0
    · simp only [decide_eq_true h] at h9 ⊢
      rcases h9 with h9 | h9
      · exact .inl ⟨h, h9.2⟩
      · cases h9.1
    · simp only [decide_eq_false h] at h9 ⊢
      rcases h9 with h9 | h9
      · cases h9.1
      · exact .inr ⟨h, h9.2⟩
theorem bestK_bd {w : Wt} (h : WMn w) {k v i : Nat} (hv : v < w.a.owner.length) (hi : i ≤ (gl w.a.next v).length) (hk : k ≤ 2048001) : -2048002000 ≤ bestK w k v i ∧ bestK w k v i ≤ 2048002000 := by
  have h1 := (h.sh.row v hv).2.1
  exact optB_bd (by omega) fun j hj => edge_bd h hv (by omega) hk
theorem set_keep {z : List Int} {v u : Nat} {x : Int} (h : u ≠ v) : gi (z.set v x) u = gi z u := by
  unfold gi
  rw [List.getD_eq_getElem?_getD, List.getElem?_set_ne (Ne.symm h), List.getD_eq_getElem?_getD]
theorem set_same {z : List Int} {v : Nat} {x : Int} (h : v < z.length) : gi (z.set v x) v = x := by
  unfold gi
  rw [List.getD_eq_getElem?_getD, List.getElem?_set_self h]
  rfl
theorem near_val {w : Wt} (h : WMn w) {v : Nat} (hv : v < w.a.owner.length) (k : Nat) : NearM (gi (payL w k) v) k w.a.owner.length (mostW w) ((gmW w).val w.a.owner.length v).1 ((gmW w).val w.a.owner.length v).2 := by
  have h1 := Gm.val_ok h.game hv
  have h2 := Gm.val_ge h.game (by have := h.mW; omega) hv k
  have h3 := Gm.val_le h.game (by have := h.mW; omega) hv k
  have hn1 := h.sh.n1
  have hn8 := h.n8
  rw [payL_gi hv]
  exact ⟨by omega, by omega, h.mW.1, h.mW.2, h1.1, h1.2.1, by omega, by omega⟩
theorem steps_nat {w : Wt} (h : WMn w) : ∃ T : Nat, (T : Int) = 4 * (w.a.owner.length * w.a.owner.length * w.a.owner.length * mostW w) ∧ T ≤ 2048000 := by
  have hb := nW_bd (n := w.a.owner.length) (W := mostW w) (by have := h.sh.n1; omega) (by have := h.n8; omega) h.mW.1 h.mW.2
  refine ⟨(4 * (w.a.owner.length * w.a.owner.length * w.a.owner.length * mostW w) : Int).toNat, by omega, by omega⟩
end Go.Proofs.Ytdbecmmeifdafaa

namespace Go.Proofs.Ytdbecmmeifdafaa
open Go.RowKit
set_option linter.unusedVariables false
set_option linter.unusedSimpArgs false

open MV (Gm)
end Go.Proofs.Ytdbecmmeifdafaa
