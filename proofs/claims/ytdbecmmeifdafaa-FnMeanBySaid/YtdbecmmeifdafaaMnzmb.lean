/- the means, by long plays and rounding: both sides -/
import Derived.Test.YtdbecmmeifdafaaMvzmb
import Derived.Test.YtdbecmmeifdafaaGKzmb
import Derived.Test.YtdbecmmeifdafaaTFracSzmb
namespace Go.Proofs.Ytdbecmmeifdafaa
open Nat renaming reduceMod → zA, reduceMul → zB, reduceDiv → zC, reduceAdd → zD, reduceSub → zE, reduceEqDiff → zF, reduceBEq → zG, reduceLT → zH, reduceLeDiff → zI
open Go.RowKit
set_option linter.unusedVariables false
set_option linter.unusedSimpArgs false

open MV (Gm)
def maxI : Int → List Int → Int
  | m, [] => m
  | m, c :: r => maxI (if c > m then c else m) r
def mostI : Int → List Int → Int
  | m, [] => m
  | m, c :: r => mostI (if (c.natAbs : Int) > m then (c.natAbs : Int) else m) r
def mostR : Int → List (List Int) → Int
  | m, [] => m
  | m, r :: rs => mostR (mostI m r) rs
theorem maxI_app (m : Int) (a b : List Int) : maxI m (a ++ b) = maxI (maxI m a) b := by
  induction a generalizing m with
  | nil => rfl
  | cons x a ih => exact ih _
theorem mostI_app (m : Int) (a b : List Int) : mostI m (a ++ b) = mostI (mostI m a) b := by
  induction a generalizing m with
  | nil => rfl
  | cons x a ih => exact ih _
theorem mostR_app (m : Int) (a b : List (List Int)) : mostR m (a ++ b) = mostR (mostR m a) b := by
  induction a generalizing m with
  | nil => rfl
  | cons x a ih => exact ih _
theorem maxI_take {m : Int} {r : List Int} {k : Nat} (h : k < r.length) : maxI m (r.take (k + 1)) = if gi r k > maxI m (r.take k) then gi r k else maxI m (r.take k) := by
  rw [List.take_add_one, gi_lt h, maxI_app]
  rfl
theorem mostI_take {m : Int} {r : List Int} {k : Nat} (h : k < r.length) : mostI m (r.take (k + 1)) = if ((gi r k).natAbs : Int) > mostI m (r.take k) then ((gi r k).natAbs : Int) else mostI m (r.take k) := by
  rw [List.take_add_one, gi_lt h, mostI_app]
  rfl
theorem mostR_take {m : Int} {rs : List (List Int)} {k : Nat} (h : k < rs.length) : mostR m (rs.take (k + 1)) = mostI (mostR m (rs.take k)) (gl rs k) := by
  rw [List.take_add_one, gl_lt h, mostR_app]
  rfl
theorem maxI_iff {B : Int} : ∀ {r : List Int} {m : Int}, maxI m r ≤ B ↔ m ≤ B ∧ ∀ x ∈ r, x ≤ B
  | [], m => by simp [maxI]
  | c :: r, m => by
    unfold maxI
    rw [maxI_iff (r := r)]
    simp only [List.mem_cons, forall_eq_or_imp]
    split <;> constructor <;> intro h <;> refine ⟨by omega, ?_⟩ <;> first | exact ⟨by omega, h.2⟩ | exact h.2.2
theorem worstI_iff {B : Int} : ∀ {r : List Int} {m : Int}, worstI m r ≤ B ↔ m ≤ B ∧ ∀ x ∈ r, -x ≤ B
  | [], m => by simp [worstI]
  | c :: r, m => by
    unfold worstI
    rw [worstI_iff (r := r)]
    simp only [List.mem_cons, forall_eq_or_imp]
    split <;> constructor <;> intro h <;> refine ⟨by omega, ?_⟩ <;> first | exact ⟨by omega, h.2⟩ | exact h.2.2
theorem mostI_iff {B : Int} : ∀ {r : List Int} {m : Int}, mostI m r ≤ B ↔ m ≤ B ∧ ∀ x ∈ r, (x.natAbs : Int) ≤ B
  | [], m => by simp [mostI]
  | c :: r, m => by
    unfold mostI
    rw [mostI_iff (r := r)]
    simp only [List.mem_cons, forall_eq_or_imp]
    split <;> constructor <;> intro h <;> refine ⟨by omega, ?_⟩ <;> first | exact ⟨by omega, h.2⟩ | exact h.2.2
theorem mostR_iff {B : Int} : ∀ {rs : List (List Int)} {m : Int}, mostR m rs ≤ B ↔ m ≤ B ∧ ∀ r ∈ rs, ∀ x ∈ r, (x.natAbs : Int) ≤ B
  | [], m => by simp [mostR]
  | c :: r, m => by
    unfold mostR
    rw [mostR_iff (rs := r), mostI_iff]
    simp only [List.mem_cons, forall_eq_or_imp]
    constructor
    · rintro ⟨⟨h1, h2⟩, h3⟩; exact ⟨h1, h2, h3⟩
    · rintro ⟨h1, h2, h3⟩; exact ⟨⟨h1, h2⟩, h3⟩
theorem eq_of_iff {a b : Int} (h : ∀ B, a ≤ B ↔ b ≤ B) : a = b := by
  have h1 := (h b).2 (Int.le_refl _)
  have h2 := (h a).1 (Int.le_refl _)
  omega
theorem most3 {m : Int} {r : List Int} (h : 1 ≤ r.length) : (if worstI (-gi r 0) r > (if maxI (gi r 0) r > m then maxI (gi r 0) r else m) then worstI (-gi r 0) r else (if maxI (gi r 0) r > m then maxI (gi r 0) r else m)) = mostI m r := by
  refine eq_of_iff fun B => ?_
  have h1 := maxI_iff (B := B) (r := r) (m := gi r 0)
  have h2 := worstI_iff (B := B) (r := r) (m := -gi r 0)
  have h3 := mostI_iff (B := B) (r := r) (m := m)
  have h0 : gi r 0 ∈ r := List.mem_of_getElem? (gi_lt h)
  rw [h3]
  have key : (maxI (gi r 0) r ≤ B ∧ worstI (-gi r 0) r ≤ B) ↔ ∀ x ∈ r, (x.natAbs : Int) ≤ B := by
    rw [h1, h2]
    constructor
    · rintro ⟨⟨_, a⟩, _, b⟩ x hx
      have := a x hx; have := b x hx; omega
    · intro a
      have b1 : ∀ x ∈ r, x ≤ B := fun x hx => by have := a x hx; omega
      have b2 : ∀ x ∈ r, -x ≤ B := fun x hx => by have := a x hx; omega
      exact ⟨⟨b1 _ h0, b1⟩, b2 _ h0, b2⟩
  rw [← key]
  omega
def mostW (w : Wt) : Int := mostR 1 w.cost
/-- The arena as a game. -/
def gmW (w : Wt) : Gm := ⟨fun v => decide (gi w.a.owner v = 0), fun v => (gl w.a.next v).length, fun v j => (gi (gl w.a.next v) j).toNat, fun v j => gi (gl w.cost v) j⟩
/-- Shape, and costs within 1000. -/
structure WMn (w : Wt) : Prop where
  sh : WSh w
  n8 : w.a.owner.length ≤ 8
  c1 : ∀ v, v < w.a.owner.length → ∀ j, j < (gl w.a.next v).length → -1000 ≤ gi (gl w.cost v) j ∧ gi (gl w.cost v) j ≤ 1000
theorem WMn.most {w : Wt} (h : WMn w) (k : Nat) : 1 ≤ mostR 1 (w.cost.take k) ∧ mostR 1 (w.cost.take k) ≤ 1000 := by
  constructor
  · exact (mostR_iff.1 (Int.le_refl (mostR 1 (w.cost.take k)))).1
  · refine mostR_iff.2 ⟨by omega, fun r hr x hx => ?_⟩
    obtain ⟨v, hv, rfl⟩ := mem_gl (List.mem_of_mem_take hr)
    obtain ⟨j, hj, rfl⟩ := mem_gi hx
    have hv' : v < w.a.owner.length := by have := h.sh.cl; omega
    have := h.c1 v hv' j (by have := (h.sh.row v hv').1; omega)
    omega
theorem WMn.mW {w : Wt} (h : WMn w) : 1 ≤ mostW w ∧ mostW w ≤ 1000 := by
  have := h.most w.cost.length
  rwa [List.take_length] at this
theorem WMn.game {w : Wt} (h : WMn w) : (gmW w).Ok w.a.owner.length (mostW w) := by
  have key : ∀ v, v < w.a.owner.length → ∀ j, j < (gl w.a.next v).length → ((gi (gl w.cost v) j).natAbs : Int) ≤ mostW w := fun v hv j hj => by
    refine (mostR_iff.1 (Int.le_refl (mostR 1 w.cost))).2 (gl w.cost v) (List.mem_of_getElem? (gl_lt (by have := h.sh.cl; omega))) _ (List.mem_of_getElem? (gi_lt (by have := (h.sh.row v hv).1; omega)))
  refine ⟨fun v hv => (h.sh.row v hv).2.1, fun v hv j hj => ?_, fun v hv j hj => ?_, fun v hv j hj => ?_⟩
  · have := h.sh.to v hv j hj
    show (gi (gl w.a.next v) j).toNat < _
    omega
  · have := key v hv j hj
    show -mostW w ≤ gi (gl w.cost v) j
    omega
  · have := key v hv j hj
    show gi (gl w.cost v) j ≤ mostW w
    omega
theorem optB_bd {mx : Bool} {f : Nat → Int} {X : Int} : ∀ {k : Nat}, 1 ≤ k → (∀ j, j < k → -X ≤ f j ∧ f j ≤ X) → -X ≤ MV.optB mx f k ∧ MV.optB mx f k ≤ X := fun {k} hk h => by
  obtain ⟨j, hj, he⟩ := MV.optB_ex mx f k hk
  rw [he]
  exact h j hj
/-- What so many steps bring is bounded. -/
theorem WMn.pay {w : Wt} (h : WMn w) : ∀ (k v : Nat), v < w.a.owner.length → -(k * mostW w) ≤ (gmW w).pay k v ∧ (gmW w).pay k v ≤ k * mostW w
  | 0, v, hv => by show -((0 : Nat) * mostW w) ≤ 0 ∧ (0 : Int) ≤ (0 : Nat) * mostW w; simp
  | k + 1, v, hv => by
    have hg := h.game
    refine optB_bd (hg.deg v hv) fun j hj => ?_
    have h1 := hg.lo v hv j hj
    have h2 := hg.hi v hv j hj
    have h3 := h.pay k _ (hg.to v hv j hj)
    simp only [Int.natCast_add, Int.natCast_one, Int.add_mul, Int.one_mul]
    omega
theorem WMn.payB {w : Wt} (h : WMn w) {k v : Nat} (hv : v < w.a.owner.length) (hk : k ≤ 2048001) : -2048001000 ≤ (gmW w).pay k v ∧ (gmW w).pay k v ≤ 2048001000 := by
  have h1 := h.pay k v hv
  have h2 := h.mW
  have h3 : (k : Int) * mostW w ≤ 2048001 * 1000 := Int.mul_le_mul (by omega) h2.2 (by omega) (by omega)
  omega
def payL (w : Wt) (k : Nat) : List Int := (List.range w.a.owner.length).map ((gmW w).pay k)
theorem payL_len (w : Wt) (k : Nat) : (payL w k).length = w.a.owner.length := by simp [payL]
theorem payL_gi {w : Wt} {k v : Nat} (h : v < w.a.owner.length) : gi (payL w k) v = (gmW w).pay k v := by
  unfold gi payL
  rw [List.getD_eq_getElem?_getD, List.getElem?_map, List.getElem?_range h]
  rfl
theorem payL_0 (w : Wt) : payL w 0 = List.replicate w.a.owner.length 0 := by
  refine List.ext_getElem? fun i => ?_
  unfold payL
  rw [List.getElem?_map, List.getElem?_replicate]
  split
  · rename_i h; rw [List.getElem?_range h]; rfl
  · rename_i h; rw [List.getElem?_eq_none (by simp; omega)]; rfl
theorem gi_ext3 {a b : List Int} (hl : a.length = b.length) (h : ∀ v, v < a.length → gi a v = gi b v) : a = b := by
  refine List.ext_getElem? fun i => ?_
  by_cases hi : i < a.length
  · rw [gi_lt hi, gi_lt (by omega), h i hi]
  · rw [List.getElem?_eq_none (by omega), List.getElem?_eq_none (by omega)]
theorem payL_ext {w : Wt} {k : Nat} {z : List Int} (hl : z.length = w.a.owner.length) (h : ∀ u, u < w.a.owner.length → gi z u = (gmW w).pay k u) : z = payL w k :=
  gi_ext3 (by rw [payL_len, hl]) fun v hv => by rw [h v (by omega), payL_gi (by omega)]
/-- What the edge j of v brings, with k more steps. -/
def edgeV (w : Wt) (k v j : Nat) : Int := gi (gl w.cost v) j + (gmW w).pay k (gi (gl w.a.next v) j).toNat
theorem pay_s (w : Wt) (k v : Nat) : (gmW w).pay (k + 1) v = MV.optB (decide (gi w.a.owner v = 0)) (edgeV w k v) (gl w.a.next v).length := rfl
theorem edge_bd {w : Wt} (h : WMn w) {k v j : Nat} (hv : v < w.a.owner.length) (hj : j < (gl w.a.next v).length) (hk : k ≤ 2048001) : -2048002000 ≤ edgeV w k v j ∧ edgeV w k v j ≤ 2048002000 := by
  have h1 := h.payB (h.game.to v hv j hj) hk
  have h2 := h.c1 v hv j hj
  unfold edgeV
  show -2048002000 ≤ gi (gl w.cost v) j + (gmW w).pay k ((gmW w).to v j) ∧ gi (gl w.cost v) j + (gmW w).pay k ((gmW w).to v j) ≤ 2048002000
  omega
def valF (w : Wt) (v : Nat) : Fr := frOf ((gmW w).val w.a.owner.length v).1 ((gmW w).val w.a.owner.length v).2
def meansL (w : Wt) : List Fr := (List.range w.a.owner.length).map (valF w)
theorem meansL_len (w : Wt) : (meansL w).length = w.a.owner.length := by simp [meansL]
def meansT (w : Wt) (k : Nat) : List Fr := (List.range k).map (valF w)
theorem meansT_len (w : Wt) (k : Nat) : (meansT w k).length = k := by simp [meansT]
theorem meansT_s (w : Wt) (k : Nat) : meansT w (k + 1) = meansT w k ++ [valF w k] := by simp [meansT, List.range_succ]
theorem down_div {x y : Int} (hy : 1 ≤ y) : (x.tmod y ≠ 0 ∧ x < 0 → x / y = x.tdiv y - 1) ∧ (¬ (x.tmod y ≠ 0 ∧ x < 0) → x / y = x.tdiv y) := by
  have h1 := Int.mul_tdiv_add_tmod x y
  have h2 := Int.mul_ediv_add_emod x y
  have h3 := Int.emod_nonneg x (b := y) (by omega)
  have h4 := Int.emod_lt_of_pos x (b := y) (by omega)
  have h5 : (x.tmod y).natAbs < y.natAbs := by rw [Int.natAbs_tmod]; exact Nat.mod_lt _ (by omega)
  have h6 : 0 ≤ x → 0 ≤ x.tmod y := fun h => Int.tmod_nonneg _ h
  have h7 : x ≤ 0 → x.tmod y ≤ 0 := fun h => by
    have := Int.neg_tmod x y
    have h8 := Int.tmod_nonneg (a := -x) y (by omega)
    omega
  generalize x.tdiv y = t at *
  generalize x.tmod y = m at *
  generalize x / y = q at *
  generalize x % y = r at *
  have key : ∀ d : Int, y * q - y * t = y * d → q - t = d := fun d hd => by
    rw [← Int.mul_sub] at hd
    exact Int.eq_of_mul_eq_mul_left (by omega) hd
  have hq : y * q - y * t = m - r := by omega
  constructor
  · rintro ⟨a, b⟩
    have hr : -y < m - r ∧ m - r < 0 ∨ m - r ≤ -y := by omega
    have h9 : m - r = y * (q - t) := by rw [Int.mul_sub]; omega
    have : q - t = -1 := by
      rcases Int.lt_trichotomy (q - t) (-1) with h | h | h
      · have := Int.mul_le_mul_of_nonneg_left (show q - t ≤ -2 by omega) (c := y) (by omega)
        omega
      · exact h
      · rcases Int.lt_or_le (q - t) 1 with h' | h'
        · have : q - t = 0 := by omega
          rw [this] at h9
          omega
        · have := Int.mul_le_mul_of_nonneg_left h' (c := y) (by omega)
          omega
    omega
  · intro a
    have h9 : m - r = y * (q - t) := by rw [Int.mul_sub]; omega
    have hm : 0 ≤ m := by
      rcases Int.lt_or_le x 0 with h | h
      · have : m = 0 := by
          rcases Decidable.em (m = 0) with e | e
          · exact e
          · exact absurd ⟨e, h⟩ a
        omega
      · exact h6 h
    have : q - t = 0 := by
      rcases Int.lt_trichotomy (q - t) 0 with h | h | h
      · have := Int.mul_le_mul_of_nonneg_left (show q - t ≤ -1 by omega) (c := y) (by omega)
        omega
      · exact h
      · have := Int.mul_le_mul_of_nonneg_left (show 1 ≤ q - t by omega) (c := y) (by omega)
        omega
    omega
theorem mul_bd {x q X Q : Int} (h : -X ≤ x ∧ x ≤ X) (hq : -Q ≤ q ∧ q ≤ Q) (hX : 0 ≤ X) (hQ : 0 ≤ Q) : -(X * Q) ≤ x * q ∧ x * q ≤ X * Q := by
  have h1 : (x * q).natAbs ≤ X.natAbs * Q.natAbs := by
    rw [Int.natAbs_mul]
    exact Nat.mul_le_mul (by omega) (by omega)
  have h2 : ((X.natAbs * Q.natAbs : Nat) : Int) = X * Q := by
    rw [Int.natCast_mul]
    congr 1 <;> omega
  omega
set_option maxRecDepth 20000 in
set_option maxHeartbeats 4000000 in
theorem MaxM_fn (r : List Int) (h : 1 ≤ r.length) (h2 : r.length ≤ 1048576) : Fn Try.prog tyT 119 [.c (DI r)] [.c (.int .i64 (maxI (gi r 0) r))] := by
  refine Fn_of (fn := Try.f119) (ts := [2]) Try.func119 (by kernel_rfl) rfl rfl (by rw [Try.ntmps119]; exact Nat.le_of_ble_eq_true rfl) rfl (by simp only [szA, List.mem_cons, List.not_mem_nil, or_false, forall_eq_or_imp, forall_eq, VT.cells, szL]; try decide) ?_
  rw [Try.ntmps119]
  simp only [push_cast, ↓brB_true, ↓brB_false, ↓reduceIte, zA, zB, zC, zD, zE, zF, zG, zH, zI, reduceCtorEq]
  refine awp_seq' fun K hK => ?_
  refine awp_region tyOk tyPos [] rfl ?_
  simp only [push_cast, ↓brB_true, ↓brB_false, ↓reduceIte, zA, zB, zC, zD, zE, zF, zG, zH, zI, reduceCtorEq]
  repeat' apply And.intro
  all_goals first | exact True.intro | exact rfl | omega | with_reducible assumption | (simp only [List.length_set, List.length_append, List.length_replicate, List.length_cons, List.length_nil]; omega) | skip
  all_goals first | (refine hK _ ?_; clear hK K) | (simp only [push_cast]; done)
  refine awp_seq' fun K1 hK1 => ?_
  refine awp_seq' fun K hK => ?_
  refine awp_region tyOk tyPos [] rfl ?_
  simp only [push_cast, ↓brB_true, ↓brB_false, ↓reduceIte, zA, zB, zC, zD, zE, zF, zG, zH, zI, reduceCtorEq]
  repeat' apply And.intro
  all_goals first | exact True.intro | exact rfl | omega | with_reducible assumption | (simp only [List.length_set, List.length_append, List.length_replicate, List.length_cons, List.length_nil]; omega) | skip
  all_goals first | (refine hK _ ?_; clear hK K) | (simp only [push_cast]; done)
  refine awp_cond rfl (fun hc => ?_) (fun hc => ?_)
  skip
  · exfalso; first | (cases hc; done) | (simp only [push_cast] at hc; done) | (simp only [push_cast] at hc; omega) | omega
  refine awp_skip ?_
  (try simp only [AThen, ABlk, reduceIte, zF]); refine hK1 _ ?_
  refine awp_seq' fun K hK => ?_
  refine awp_region tyOk tyPos [] rfl ?_
  simp only [push_cast, ↓brB_true, ↓brB_false, ↓reduceIte, zA, zB, zC, zD, zE, zF, zG, zH, zI, reduceCtorEq]
  repeat' apply And.intro
  all_goals first | exact True.intro | exact rfl | omega | with_reducible assumption | (simp only [List.length_set, List.length_append, List.length_replicate, List.length_cons, List.length_nil]; omega) | skip
  all_goals first | (refine hK _ ?_; clear hK K) | (simp only [push_cast]; done)
  refine awp_seq' fun K2 hK2 => ?_
  refine awp_seq' fun K hK => ?_
  refine awp_region tyOk tyPos [] rfl ?_
  simp only [push_cast, ↓brB_true, ↓brB_false, ↓reduceIte, zA, zB, zC, zD, zE, zF, zG, zH, zI, reduceCtorEq]
  repeat' apply And.intro
  all_goals first | exact True.intro | exact rfl | omega | with_reducible assumption | (simp only [List.length_set, List.length_append, List.length_replicate, List.length_cons, List.length_nil]; omega) | skip
  all_goals first | (refine hK _ ?_; clear hK K) | (simp only [push_cast]; done)
  refine awp_block ?_
  refine awp_loopU [3,4,12,13,14,15,16,17,18,19,20,21,22,23] [] (fun (k : Nat) => [(4, .int .i64 k), (3, .int .i64 (maxI (gi r 0) (r.take k)))]) (fun k => []) (fun k => []) (fun k => 1 ≤ k ∧ k ≤ r.length) (fun k => r.length - k) 1 ?_ (by omega) ?_
  ·
    rw [maxI_take (by omega), List.take_zero, show maxI (gi r 0) [] = gi r 0 from rfl, if_neg (by omega)]
    refine cov_of rfl ?_ ?_ ?_ <;> simp only [covS, covL, push_cast, ↓brB_true, ↓brB_false, ↓reduceIte, zA, zB, zC, zD, zE, zF, zG, zH, zI, reduceCtorEq]
  · rintro k ⟨hk1, hk⟩ KL0 hL0
    simp only [push_cast, ↓brB_true, ↓brB_false, ↓reduceIte, zA, zB, zC, zD, zE, zF, zG, zH, zI, reduceCtorEq]
    refine awp_seq' fun K3 hK3 => ?_
    refine awp_seq' fun K hK => ?_
    refine awp_region tyOk tyPos [] rfl ?_
    simp only [push_cast, ↓brB_true, ↓brB_false, ↓reduceIte, zA, zB, zC, zD, zE, zF, zG, zH, zI, reduceCtorEq]
    repeat' apply And.intro
    all_goals first | exact True.intro | exact rfl | omega | with_reducible assumption | (simp only [List.length_set, List.length_append, List.length_replicate, List.length_cons, List.length_nil]; omega) | skip
    all_goals first | (refine hK _ ?_; clear hK K) | (simp only [push_cast]; done)
    refine awp_cond rfl (fun hc => ?_) (fun hc => ?_) <;> (try simp only [push_cast] at hc)
    ·
      refine awp_skip ?_
      (try simp only [AThen, ABlk, reduceIte, zF]); refine hK3 _ ?_
      refine awp_seq' fun K4 hK4 => ?_
      refine awp_block ?_
      refine awp_region tyOk tyPos [] rfl ?_
      simp only [push_cast, ↓brB_true, ↓brB_false, ↓reduceIte, zA, zB, zC, zD, zE, zF, zG, zH, zI, reduceCtorEq]
      repeat' apply And.intro
      all_goals first | exact True.intro | exact rfl | omega | with_reducible assumption | (simp only [List.length_set, List.length_append, List.length_replicate, List.length_cons, List.length_nil]; omega) | skip
      (try simp only [AThen, ABlk, reduceIte, zF]); refine hK4 _ ?_
      refine awp_region tyOk tyPos [] rfl ?_
      simp only [push_cast, ↓brB_true, ↓brB_false, ↓reduceIte, zA, zB, zC, zD, zE, zF, zG, zH, zI, reduceCtorEq]
      repeat' apply And.intro
      all_goals first | exact True.intro | exact rfl | omega | with_reducible assumption | (simp only [List.length_set, List.length_append, List.length_replicate, List.length_cons, List.length_nil]; omega) | skip
      refine hL0 _ ⟨k + 1, by omega, by omega, ?_⟩
      rw [maxI_take (by omega)]
      refine cov_of rfl ?_ ?_ ?_ <;> simp only [covS, covL, push_cast, ↓brB_true, ↓brB_false, ↓reduceIte, zA, zB, zC, zD, zE, zF, zG, zH, zI, reduceCtorEq]
    ·
      refine awp_exit ?_
      (try simp only [AThen, ABlk, reduceIte, zF]); refine hK2 _ ?_
      refine awp_seq' fun K hK => ?_
      refine awp_region tyOk tyPos [] rfl ?_
      simp only [push_cast, ↓brB_true, ↓brB_false, ↓reduceIte, zA, zB, zC, zD, zE, zF, zG, zH, zI, reduceCtorEq]
      repeat' apply And.intro
      all_goals first | exact True.intro | exact rfl | omega | with_reducible assumption | (simp only [List.length_set, List.length_append, List.length_replicate, List.length_cons, List.length_nil]; omega) | skip
      all_goals first | (refine hK _ ?_; clear hK K) | (simp only [push_cast]; done)
      refine awp_ret ?_
      (try simp only [AThen, ABlk])
      refine ⟨Or.inl rfl, ?_⟩
      simp only [RetOk, push_cast, ↓brB_true, ↓brB_false, ↓reduceIte, zA, zB, zC, zD, zE, zF, zG, zH, zI, reduceCtorEq]
      rw [show k = r.length from by omega, List.take_length]
set_option maxRecDepth 20000 in
set_option maxHeartbeats 4000000 in
theorem l1Down_fn (x y : Int) (hx : -1000000000000 ≤ x ∧ x ≤ 1000000000000) (hy : 1 ≤ y ∧ y ≤ 1000000000000) : Fn Try.prog tyT 139 [.c (.int .i64 x), .c (.int .i64 y)] [.c (.int .i64 (x / y))] := by
  have ht := tdiv_bd y hx
  obtain ⟨t, ht2⟩ : ∃ t, t = x.tdiv y := ⟨_, rfl⟩
  obtain ⟨m, hm2⟩ : ∃ m, m = x.tmod y := ⟨_, rfl⟩
  have hd := down_div (x := x) (y := y) hy.1
  rw [← ht2] at ht hd
  rw [← hm2] at hd
  refine Fn_of (fn := Try.f139) (ts := [4]) Try.func139 (by kernel_rfl) rfl rfl (by rw [Try.ntmps139]; exact Nat.le_of_ble_eq_true rfl) rfl (by simp only [szA, List.mem_cons, List.not_mem_nil, or_false, forall_eq_or_imp, forall_eq, VT.cells, szL]; try decide) ?_
  rw [Try.ntmps139]
  simp only [push_cast, ↓brB_true, ↓brB_false, ↓reduceIte, zA, zB, zC, zD, zE, zF, zG, zH, zI, reduceCtorEq]
  refine awp_seq' fun K hK => ?_
  refine awp_region tyOk tyPos [] rfl ?_
  all_goals simp only [push_cast, ↓brB_true, ↓brB_false, ↓reduceIte, zA, zB, zC, zD, zE, zF, zG, zH, zI, reduceCtorEq]
  all_goals repeat' (first | (apply brB_mk <;> (intro hg; (try simp only [push_cast] at hg))) | apply And.intro | (intro hg; (try simp only [push_cast] at hg)))
  all_goals first | exact True.intro | exact rfl | contradiction | omega | with_reducible assumption | (rw [← hm2]; omega) | skip
  all_goals first | (refine hK _ ?_; clear hK K) | (simp only [push_cast]; done)
  skip
  refine awp_seq' fun K hK => ?_
  refine awp_region tyOk tyPos [] rfl ?_
  all_goals simp only [push_cast, ↓brB_true, ↓brB_false, ↓reduceIte, zA, zB, zC, zD, zE, zF, zG, zH, zI, reduceCtorEq]
  all_goals repeat' (first | (apply brB_mk <;> (intro hg; (try simp only [push_cast] at hg))) | apply And.intro | (intro hg; (try simp only [push_cast] at hg)))
  all_goals first | exact True.intro | exact rfl | contradiction | omega | with_reducible assumption | (rw [← hm2]; omega) | skip
  all_goals first | (refine hK _ ?_; clear hK K) | (simp only [push_cast]; done)
  refine awp_seq' fun K1 hK1 => ?_
  rw [← ht2]
  refine awp_seq' fun K hK => ?_
  refine awp_regionN false tyOk tyPos ?_ rfl ?_
  · kernel_rfl
  all_goals simp only [push_cast, ↓brB_true, ↓brB_false, ↓reduceIte, zA, zB, zC, zD, zE, zF, zG, zH, zI, reduceCtorEq]
  all_goals repeat' (first | (apply brB_mk <;> (intro hg; (try simp only [push_cast] at hg))) | apply And.intro | (intro hg; (try simp only [push_cast] at hg)))
  all_goals first | exact True.intro | exact rfl | contradiction | omega | with_reducible assumption | (rw [← hm2]; omega) | skip
  all_goals first | (refine hK _ ?_; clear hK K) | (simp only [push_cast]; done)
  all_goals refine awp_cond rfl (fun hc => ?_) (fun hc => ?_)
  all_goals (first | (cases hc; done) | skip)
  all_goals (try simp only [push_cast] at hc)
  all_goals first
    | (
        refine awp_skip ?_
        (try simp only [AThen, ABlk, reduceIte, zF]); refine hK1 _ ?_
        refine awp_seq' fun K hK => ?_
        refine awp_region tyOk tyPos [] rfl ?_
        all_goals simp only [push_cast, ↓brB_true, ↓brB_false, ↓reduceIte, zA, zB, zC, zD, zE, zF, zG, zH, zI, reduceCtorEq]
        all_goals repeat' (first | (apply brB_mk <;> (intro hg; (try simp only [push_cast] at hg))) | apply And.intro | (intro hg; (try simp only [push_cast] at hg)))
        all_goals first | exact True.intro | exact rfl | contradiction | omega | with_reducible assumption | (rw [← hm2]; omega) | skip
        all_goals first | (refine hK _ ?_; clear hK K) | (simp only [push_cast]; done)
        refine awp_ret ?_
        (try simp only [AThen, ABlk])
        refine ⟨Or.inl rfl, ?_⟩
        simp only [RetOk, push_cast, ↓brB_true, ↓brB_false, ↓reduceIte, zA, zB, zC, zD, zE, zF, zG, zH, zI, reduceCtorEq]
        (have hy0 : decide (y < 0) = false := decide_eq_false (by omega)
         (try rw [hy0] at hc)
         rw [← hm2] at hg
         by_cases hx0 : x < 0 <;> (try simp [hx0] at hc) <;> omega)
        done)
    | (
        refine awp_region tyOk tyPos [] rfl ?_
        all_goals simp only [push_cast, ↓brB_true, ↓brB_false, ↓reduceIte, zA, zB, zC, zD, zE, zF, zG, zH, zI, reduceCtorEq]
        all_goals repeat' (first | (apply brB_mk <;> (intro hg; (try simp only [push_cast] at hg))) | apply And.intro | (intro hg; (try simp only [push_cast] at hg)))
        all_goals first | exact True.intro | exact rfl | contradiction | omega | with_reducible assumption | (rw [← hm2]; omega) | skip
        (try simp only [AThen, ABlk, reduceIte, zF]); refine hK1 _ ?_
        refine awp_seq' fun K hK => ?_
        refine awp_region tyOk tyPos [] rfl ?_
        all_goals simp only [push_cast, ↓brB_true, ↓brB_false, ↓reduceIte, zA, zB, zC, zD, zE, zF, zG, zH, zI, reduceCtorEq]
        all_goals repeat' (first | (apply brB_mk <;> (intro hg; (try simp only [push_cast] at hg))) | apply And.intro | (intro hg; (try simp only [push_cast] at hg)))
        all_goals first | exact True.intro | exact rfl | contradiction | omega | with_reducible assumption | (rw [← hm2]; omega) | skip
        all_goals first | (refine hK _ ?_; clear hK K) | (simp only [push_cast]; done)
        refine awp_ret ?_
        (try simp only [AThen, ABlk])
        refine ⟨Or.inl rfl, ?_⟩
        simp only [RetOk, push_cast, ↓brB_true, ↓brB_false, ↓reduceIte, zA, zB, zC, zD, zE, zF, zG, zH, zI, reduceCtorEq]
        (have hy0 : decide (y < 0) = false := decide_eq_false (by omega)
         (try rw [hy0] at hc)
         rw [← hm2] at hg
         by_cases hx0 : x < 0 <;> (try simp [hx0] at hc) <;> omega)
        done)
/-- What is known of the sum of so long a play: it is near to so many times the mean. -/
structure NearM (x S n W p q : Int) : Prop where
  n1 : 1 ≤ n
  n8 : n ≤ 8
  w1 : 1 ≤ W
  w2 : W ≤ 1000
  q1 : 1 ≤ q
  q2 : q ≤ n
  up : q * x ≤ S * p + 2 * ((n - 1) * (q * W))
  lo : S * p - 2 * ((n - 1) * (q * W)) ≤ q * x
theorem nW_bd {n W : Int} (n1 : 1 ≤ n) (n8 : n ≤ 8) (w1 : 1 ≤ W) (w2 : W ≤ 1000) : (1 ≤ n * n ∧ n * n ≤ 64) ∧ (1 ≤ n * n * n ∧ n * n * n ≤ 512) ∧ (1 ≤ n * n * n * W ∧ n * n * n * W ≤ 512000) ∧ (1 ≤ n * W ∧ n * W ≤ 8000) := by
  have a1 : n * n ≤ 8 * 8 := Int.mul_le_mul n8 n8 (by omega) (by omega)
  have b1 : 1 * 1 ≤ n * n := Int.mul_le_mul n1 n1 (by omega) (by omega)
  have a2 : n * n * n ≤ 64 * 8 := Int.mul_le_mul (by omega) n8 (by omega) (by omega)
  have b2 : 1 * 1 ≤ n * n * n := Int.mul_le_mul (by omega) n1 (by omega) (by omega)
  have a3 : n * n * n * W ≤ 512 * 1000 := Int.mul_le_mul (by omega) w2 (by omega) (by omega)
  have b3 : 1 * 1 ≤ n * n * n * W := Int.mul_le_mul (by omega) w1 (by omega) (by omega)
  have a4 : n * W ≤ 8 * 1000 := Int.mul_le_mul n8 w2 (by omega) (by omega)
  have b4 : 1 * 1 ≤ n * W := Int.mul_le_mul n1 w1 (by omega) (by omega)
  omega
theorem nf_accept {x S n W p q : Int} (h : NearM x S n W p q) (hS : S = 4 * (n * n * n * W) + 1) {d k : Int} (hk : 1 ≤ k) (hk2 : k ≤ n) (h1 : x * k - d * S ≤ 2 * n * W * k) (h2 : -(x * k - d * S) ≤ 2 * n * W * k) : frOf d k = frOf p q := by
  subst hS
  exact MV.accept_same h.n1 h.w1 hk hk2 h.q1 h.q2 h1 (by omega) h.up h.lo
theorem nf_mean {x S n W p q : Int} (h : NearM x S n W p q) (hS : S = 4 * (n * n * n * W) + 1) : (x * q - p * S ≤ 2 * n * W * q ∧ -(x * q - p * S) ≤ 2 * n * W * q) ∧ (x * q).tdiv S - 1 ≤ p ∧ p ≤ (x * q).tdiv S + 1 := by
  subst hS
  have := MV.accept_mean h.n1 h.w1 h.q1 h.q2 h.up h.lo
  refine ⟨⟨this.1.1, by have := this.1.2; omega⟩, this.2⟩
/-- The numerator nearest to a denominator. -/
def rndN (x S q : Int) : Int := (2 * x * q + S) / (2 * S)
def dstN' (x S q : Int) : Int := ((x * q - rndN x S q * S).natAbs : Int)
theorem rnd_le {x S q : Int} (hS : 0 < S) : 2 * (x * q - rndN x S q * S) ≤ S ∧ -(2 * (x * q - rndN x S q * S)) ≤ S := by
  have t1 := Int.mul_ediv_add_emod (2 * x * q + S) (2 * S)
  have t2 := Int.emod_nonneg (2 * x * q + S) (b := 2 * S) (by omega)
  have t3 := Int.emod_lt_of_pos (2 * x * q + S) (b := 2 * S) (by omega)
  have e : rndN x S q = (2 * x * q + S) / (2 * S) := rfl
  rw [← e] at t1
  have e1 : 2 * S * rndN x S q = 2 * (rndN x S q * S) := by ac_rfl
  have e2 : 2 * x * q = 2 * (x * q) := by ac_rfl
  rw [e1] at t1
  generalize (2 * x * q + S) % (2 * S) = r at *
  rw [e2] at t1
  omega
theorem near_final {x S n W p q : Int} (h : NearM x S n W p q) (hS : S = 4 * (n * n * n * W)) {bn bd off : Int} (hb : 1 ≤ bd) (hb2 : bd ≤ n) (ho : off = ((x * bd - bn * S).natAbs : Int)) (hm : off * q ≤ dstN' x S q * bd) : frOf bn bd = frOf p q := by
  have hb3 := nW_bd h.n1 h.n8 h.w1 h.w2
  have hs := MV.small h.n1 h.w1 h.q1 h.q2
  have hSp : 0 < S := by omega
  have hw1 := h.w1
  have hp : rndN x S q = p := by
    refine MV.round_near (y := x * q) hSp ?_ ?_ ?_
    · unfold rndN
      rw [Int.mul_assoc]
    · have := h.up
      rw [Int.mul_comm x q, Int.mul_comm p S]
      have h9 : (n - 1) * (q * W) ≤ n * n * n * W - W := hs.2.1
      omega
    · have := h.lo
      rw [Int.mul_comm x q, Int.mul_comm p S]
      have h9 : (n - 1) * (q * W) ≤ n * n * n * W - W := hs.2.1
      omega
  have hd : dstN' x S q ≤ 2 * ((n - 1) * W) * q := by
    unfold dstN'
    rw [hp, Int.mul_comm x q, Int.mul_comm p S]
    have e : 2 * ((n - 1) * W) * q = 2 * ((n - 1) * (q * W)) := by ac_rfl
    rw [e]
    have := h.up
    have := h.lo
    omega
  have h1 : off * q ≤ (2 * ((n - 1) * W) * bd) * q := by
    refine Int.le_trans hm ?_
    have := Int.mul_le_mul_of_nonneg_right hd (c := bd) (by omega)
    refine Int.le_trans this (Int.le_of_eq ?_)
    ac_rfl
  have h2 : off ≤ 2 * ((n - 1) * W) * bd := Int.le_of_mul_le_mul_right h1 (by have := h.q1; omega)
  subst hS
  exact MV.nearest_same h.n1 h.w1 hb hb2 h.q1 h.q2 (by omega) (by omega) h.up h.lo
set_option maxRecDepth 20000 in
set_option maxHeartbeats 4000000 in
theorem nearestFrac_fn (x S n e W p0 q0 : Int) (hN : NearM x S n W p0 q0) (hx : -3000000000 ≤ x ∧ x ≤ 3000000000) (hS : S = 4 * (n * n * n * W) + 1) (he : e = 2 * n * W) : Fn Try.prog tyT 120 [.c (.int .i64 x), .c (.int .i64 S), .c (.int .i64 n), .c (.int .i64 e)] [.agg (dFr (frOf p0 q0))] := by
  have hb := nW_bd hN.n1 hN.n8 hN.w1 hN.w2
  have hn1 := hN.n1
  have hn8 := hN.n8
  have hq1 := hN.q1
  have hq2 := hN.q2
  have hS2 : 1 ≤ S ∧ S ≤ 2048001 := by omega
  have he2 : 0 ≤ e ∧ e ≤ 16000 := by rw [he, Int.mul_assoc]; omega
  have hm := nf_mean hN hS
  have hac := fun d k hk hk2 => nf_accept hN hS (d := d) (k := k) hk hk2
  rw [← he] at hm hac
  have hF := fracOf_fn
  unfold dFr at hF ⊢
  refine Fn_ofR (fn := Try.f120) (rs := [.cell 8 50]) tyOk tyPos Try.func120 (by kernel_rfl) rfl rfl (by rw [Try.ntmps120]; exact Nat.le_of_ble_eq_true rfl) rfl (by simp only [szA, List.mem_cons, List.not_mem_nil, or_false, forall_eq_or_imp, forall_eq, VT.cells, szL]; try decide) ?_
  rw [Try.ntmps120]
  simp only [push_cast, ↓brB_true, ↓brB_false, ↓reduceIte, zA, zB, zC, zD, zE, zF, zG, zH, zI, reduceCtorEq]
  refine awp_seq' fun K hK => ?_
  refine awp_region tyOk tyPos [] rfl ?_
  all_goals simp only [push_cast, ↓brB_true, ↓brB_false, ↓reduceIte, zA, zB, zC, zD, zE, zF, zG, zH, zI, reduceCtorEq]
  all_goals repeat' (first | (apply brB_mk <;> (intro hg; (try simp only [push_cast] at hg))) | apply And.intro | (intro hg; (try simp only [push_cast] at hg)))
  all_goals first | exact True.intro | exact rfl | contradiction | omega | with_reducible assumption | (intro h0; omega) | skip
  all_goals first | (refine hK _ ?_; clear hK K) | (simp only [push_cast]; done)
  refine awp_seq' fun K1 hK1 => ?_
  refine awp_seq' fun K hK => ?_
  refine awp_region tyOk tyPos [] rfl ?_
  all_goals simp only [push_cast, ↓brB_true, ↓brB_false, ↓reduceIte, zA, zB, zC, zD, zE, zF, zG, zH, zI, reduceCtorEq]
  all_goals repeat' (first | (apply brB_mk <;> (intro hg; (try simp only [push_cast] at hg))) | apply And.intro | (intro hg; (try simp only [push_cast] at hg)))
  all_goals first | exact True.intro | exact rfl | contradiction | omega | with_reducible assumption | (intro h0; omega) | skip
  all_goals first | (refine hK _ ?_; clear hK K) | (simp only [push_cast]; done)
  refine awp_block ?_
  refine awp_loopU [9,10,11,12,13,14,15,16,17,18,19,20,21,22,23,24,25,26,27,28,29,30,31,32,33,34,35,36,37,38,39,40,41,42,43,44,45,46,47,48,49,50,51,52,53] [] (fun (q : Int) => [(9, .int .i64 q)]) (fun q => []) (fun q => []) (fun q => 1 ≤ q ∧ q ≤ q0) (fun q => (q0 - q).toNat) 1 ?_ ⟨by omega, by omega⟩ ?_
  ·
    refine cov_of rfl ?_ ?_ ?_ <;> simp only [covS, covL, push_cast, ↓brB_true, ↓brB_false, ↓reduceIte, zA, zB, zC, zD, zE, zF, zG, zH, zI, reduceCtorEq]
  · rintro q ⟨hk1, hk2⟩ KL0 hL0
    have hb1 := mul_bd (x := x) (q := q) (X := 3000000000) (Q := 8) hx (by omega) (by omega) (by omega)
    have hb2 := mul_bd (x := e) (q := q) (X := 16000) (Q := 8) (by omega) (by omega) (by omega) (by omega)
    have hb3 := tdiv_bd (B := 24000000000) S (by omega : -24000000000 ≤ x * q ∧ x * q ≤ 24000000000)
    simp only [push_cast, ↓brB_true, ↓brB_false, ↓reduceIte, zA, zB, zC, zD, zE, zF, zG, zH, zI, reduceCtorEq]
    refine awp_seq' fun K2 hK2 => ?_
    refine awp_seq' fun K hK => ?_
    refine awp_region tyOk tyPos [] rfl ?_
    all_goals simp only [push_cast, ↓brB_true, ↓brB_false, ↓reduceIte, zA, zB, zC, zD, zE, zF, zG, zH, zI, reduceCtorEq]
    all_goals repeat' (first | (apply brB_mk <;> (intro hg; (try simp only [push_cast] at hg))) | apply And.intro | (intro hg; (try simp only [push_cast] at hg)))
    all_goals first | exact True.intro | exact rfl | contradiction | omega | with_reducible assumption | (intro h0; omega) | skip
    all_goals first | (refine hK _ ?_; clear hK K) | (simp only [push_cast]; done)
    refine awp_cond rfl (fun hc => ?_) (fun hc => ?_)
    rotate_left
    · exfalso; first | (cases hc; done) | (simp only [push_cast] at hc; done) | (simp only [push_cast] at hc; omega) | omega
    refine awp_skip ?_
    (try simp only [AThen, ABlk, reduceIte, zF]); refine hK2 _ ?_
    refine awp_seq' fun K3 hK3 => ?_
    refine awp_block ?_
    refine awp_seq' fun K hK => ?_
    refine awp_region tyOk tyPos [] rfl ?_
    all_goals simp only [push_cast, ↓brB_true, ↓brB_false, ↓reduceIte, zA, zB, zC, zD, zE, zF, zG, zH, zI, reduceCtorEq]
    all_goals repeat' (first | (apply brB_mk <;> (intro hg; (try simp only [push_cast] at hg))) | apply And.intro | (intro hg; (try simp only [push_cast] at hg)))
    all_goals first | exact True.intro | exact rfl | contradiction | omega | with_reducible assumption | (intro h0; omega) | skip
    all_goals first | (refine hK _ ?_; clear hK K) | (simp only [push_cast]; done)
    refine awp_seq' fun K hK => ?_
    refine awp_region tyOk tyPos [] rfl ?_
    all_goals simp only [push_cast, ↓brB_true, ↓brB_false, ↓reduceIte, zA, zB, zC, zD, zE, zF, zG, zH, zI, reduceCtorEq]
    all_goals repeat' (first | (apply brB_mk <;> (intro hg; (try simp only [push_cast] at hg))) | apply And.intro | (intro hg; (try simp only [push_cast] at hg)))
    all_goals first | exact True.intro | exact rfl | contradiction | omega | with_reducible assumption | (intro h0; omega) | skip
    all_goals first | (refine hK _ ?_; clear hK K) | (simp only [push_cast]; done)
    refine awp_block ?_
    obtain ⟨P, hP⟩ : ∃ P, P = (x * q).tdiv S := ⟨_, rfl⟩
    rw [← hP] at hb3 ⊢
    have hst : q = q0 → P - 1 ≤ p0 ∧ p0 ≤ P + 1 := fun h9 => by rw [hP, h9]; exact hm.2
    refine awp_loopU [11,12,25,26,27,28,29,30,31,32,33,34,35,36,37,38,39,40,41,42,43,44,45,46,47,48,49,50,51,52,53] [] (fun (d : Int) => [(11, .int .i64 d)]) (fun d => []) (fun d => []) (fun d => P - 1 ≤ d ∧ d ≤ P + 2 ∧ (q = q0 → d ≤ p0)) (fun d => (P + 2 - d).toNat) (P - 1) ?_ ⟨by omega, by omega, fun h9 => (hst h9).1⟩ ?_
    ·
      refine cov_of rfl ?_ ?_ ?_ <;> simp only [covS, covL, push_cast, ↓brB_true, ↓brB_false, ↓reduceIte, zA, zB, zC, zD, zE, zF, zG, zH, zI, reduceCtorEq]
    · rintro d ⟨hd1, hd2, hd3⟩ KL1 hL1
      have hb4 := mul_bd (x := d) (q := S) (X := 24000000002) (Q := 2048001) (by omega) (by omega) (by omega) (by omega)
      simp only [push_cast, ↓brB_true, ↓brB_false, ↓reduceIte, zA, zB, zC, zD, zE, zF, zG, zH, zI, reduceCtorEq]
      refine awp_seq' fun K4 hK4 => ?_
      refine awp_seq' fun K hK => ?_
      refine awp_region tyOk tyPos [] rfl ?_
      all_goals simp only [push_cast, ↓brB_true, ↓brB_false, ↓reduceIte, zA, zB, zC, zD, zE, zF, zG, zH, zI, reduceCtorEq]
      all_goals repeat' (first | (apply brB_mk <;> (intro hg; (try simp only [push_cast] at hg))) | apply And.intro | (intro hg; (try simp only [push_cast] at hg)))
      all_goals first | exact True.intro | exact rfl | contradiction | omega | with_reducible assumption | (intro h0; omega) | skip
      all_goals first | (refine hK _ ?_; clear hK K) | (simp only [push_cast]; done)
      refine awp_cond rfl (fun hc => ?_) (fun hc => ?_) <;> (try simp only [push_cast] at hc)
      ·
        refine awp_skip ?_
        (try simp only [AThen, ABlk, reduceIte, zF]); refine hK4 _ ?_
        refine awp_seq' fun K5 hK5 => ?_
        refine awp_block ?_
        refine awp_seq' fun K hK => ?_
        refine awp_region tyOk tyPos [] rfl ?_
        all_goals simp only [push_cast, ↓brB_true, ↓brB_false, ↓reduceIte, zA, zB, zC, zD, zE, zF, zG, zH, zI, reduceCtorEq]
        all_goals repeat' (first | (apply brB_mk <;> (intro hg; (try simp only [push_cast] at hg))) | apply And.intro | (intro hg; (try simp only [push_cast] at hg)))
        all_goals first | exact True.intro | exact rfl | contradiction | omega | with_reducible assumption | (intro h0; omega) | skip
        all_goals first | (refine hK _ ?_; clear hK K) | (simp only [push_cast]; done)
        refine awp_seq' fun K hK => ?_
        refine awp_regionN false tyOk tyPos ?_ rfl ?_
        · kernel_rfl
        all_goals simp only [push_cast, ↓brB_true, ↓brB_false, ↓reduceIte, zA, zB, zC, zD, zE, zF, zG, zH, zI, reduceCtorEq]
        all_goals repeat' (first | (apply brB_mk <;> (intro hg; (try simp only [push_cast] at hg))) | apply And.intro | (intro hg; (try simp only [push_cast] at hg)))
        all_goals first | exact True.intro | exact rfl | contradiction | omega | with_reducible assumption | (intro h0; omega) | skip
        all_goals first | (refine hK _ ?_; clear hK K) | (simp only [push_cast]; done)
        all_goals refine awp_cond rfl (fun hc => ?_) (fun hc => ?_)
        all_goals (first | (cases hc; done) | skip)
        all_goals (try simp only [push_cast] at hc)
        all_goals first
          | (
              refine awp_skip ?_
              (try simp only [AThen, ABlk, reduceIte, zF]); refine hK5 _ ?_
              refine awp_region tyOk tyPos [] rfl ?_
              all_goals simp only [push_cast, ↓brB_true, ↓brB_false, ↓reduceIte, zA, zB, zC, zD, zE, zF, zG, zH, zI, reduceCtorEq]
              all_goals repeat' (first | (apply brB_mk <;> (intro hg; (try simp only [push_cast] at hg))) | apply And.intro | (intro hg; (try simp only [push_cast] at hg)))
              all_goals first | exact True.intro | exact rfl | contradiction | omega | with_reducible assumption | (intro h0; omega) | skip
              refine hL1 _ ⟨d + 1, ⟨by omega, by omega, fun h9 => (by
                  have h8 := hd3 h9
                  have h7 := (hst h9).2
                  by_cases h6 : d = p0
                  · exfalso
                    have h5 := hm.1
                    rw [← h9, ← h6] at h5
                    omega
                  · omega)⟩, by omega, ?_⟩
              refine cov_of rfl ?_ ?_ ?_ <;> simp only [covS, covL, push_cast, ↓brB_true, ↓brB_false, ↓reduceIte, zA, zB, zC, zD, zE, zF, zG, zH, zI, reduceCtorEq]
              done)
          | (
              refine awp_seq' fun K hK => ?_
              refine awp_region tyOk tyPos [] rfl ?_
              all_goals refine aops_cut 3 fun K9 hK9 => ?_
              all_goals simp only [push_cast, ↓brB_true, ↓brB_false, ↓reduceIte, zA, zB, zC, zD, zE, zF, zG, zH, zI, reduceCtorEq]
              all_goals repeat' (first | (apply brB_mk <;> (intro hg; (try simp only [push_cast] at hg))) | (refine ⟨_, hF d q (by omega) (by omega), ?_⟩; simp only [push_cast, ↓brB_true, ↓brB_false, ↓reduceIte, zA, zB, zC, zD, zE, zF, zG, zH, zI, reduceCtorEq]) | apply And.intro | (intro hg; (try simp only [push_cast] at hg)))
              all_goals first | exact True.intro | exact rfl | contradiction | omega | with_reducible assumption | (intro h0; omega) | skip
              all_goals first | (refine hK9 _ ?_; clear hK9 K9) | (simp only [push_cast]; done)
              all_goals simp only [push_cast, ↓brB_true, ↓brB_false, ↓reduceIte, zA, zB, zC, zD, zE, zF, zG, zH, zI, reduceCtorEq]
              all_goals repeat' (first | (apply brB_mk <;> (intro hg; (try simp only [push_cast] at hg))) | (refine ⟨_, hF d q (by omega) (by omega), ?_⟩; simp only [push_cast, ↓brB_true, ↓brB_false, ↓reduceIte, zA, zB, zC, zD, zE, zF, zG, zH, zI, reduceCtorEq]) | apply And.intro | (intro hg; (try simp only [push_cast] at hg)))
              all_goals first | exact True.intro | exact rfl | contradiction | omega | with_reducible assumption | (intro h0; omega) | skip
              all_goals first | (refine hK _ ?_; clear hK K) | (simp only [push_cast]; done)
              refine awp_ret ?_
              (try simp only [AThen, ABlk])
              refine ⟨Or.inl rfl, ?_⟩
              simp only [RetOk, resVars, resVar, push_cast, ↓brB_true, ↓brB_false, ↓reduceIte, zA, zB, zC, zD, zE, zF, zG, zH, zI, reduceCtorEq]
              all_goals (rw [← hac d q (by omega) (by omega) (by omega) (by omega)]; first | rfl | exact ⟨rfl, rfl⟩ | (simp; done))
              done)
      ·
        refine awp_exit ?_
        have hne : q ≠ q0 := fun h9 => by have h8 := hd3 h9; have h7 := (hst h9).2; omega
        (try simp only [AThen, ABlk, reduceIte, zF]); refine hK3 _ ?_
        refine awp_region tyOk tyPos [] rfl ?_
        all_goals simp only [push_cast, ↓brB_true, ↓brB_false, ↓reduceIte, zA, zB, zC, zD, zE, zF, zG, zH, zI, reduceCtorEq]
        all_goals repeat' (first | (apply brB_mk <;> (intro hg; (try simp only [push_cast] at hg))) | apply And.intro | (intro hg; (try simp only [push_cast] at hg)))
        all_goals first | exact True.intro | exact rfl | contradiction | omega | with_reducible assumption | (intro h0; omega) | skip
        refine hL0 _ ⟨q + 1, ⟨by omega, by omega⟩, by omega, ?_⟩
        refine cov_of rfl ?_ ?_ ?_ <;> simp only [covS, covL, push_cast, ↓brB_true, ↓brB_false, ↓reduceIte, zA, zB, zC, zD, zE, zF, zG, zH, zI, reduceCtorEq]
theorem rnd_bd {x S q : Int} (hS : 1 ≤ S) (hx : -27000000000 ≤ x * q ∧ x * q ≤ 27000000000) (h : 2 * (x * q - rndN x S q * S) ≤ S ∧ -(2 * (x * q - rndN x S q * S)) ≤ S) : -30000000000 ≤ rndN x S q ∧ rndN x S q ≤ 30000000000 := by
  generalize rndN x S q = r at *
  constructor
  · rcases Int.lt_or_le r (-30000000000) with h1 | h1
    · have := Int.mul_le_mul_of_nonneg_right (show r ≤ -30000000001 by omega) (c := S) (by omega)
      omega
    · exact h1
  · rcases Int.lt_or_le 30000000000 r with h1 | h1
    · have := Int.mul_le_mul_of_nonneg_right (show 30000000001 ≤ r by omega) (c := S) (by omega)
      omega
    · exact h1
theorem dst_le {x S q : Int} (hS : 0 < S) : 0 ≤ dstN' x S q ∧ 2 * dstN' x S q ≤ S := by
  have := rnd_le (x := x) (q := q) hS
  unfold dstN'
  omega
/-- The best so far. -/
structure BestN (x S q bn bd off : Int) : Prop where
  first : q = 1 → bn = 0 ∧ bd = 0 ∧ off = 0
  pos : q ≠ 1 → 1 ≤ bd ∧ bd < q ∧ bn = rndN x S bd ∧ off = dstN' x S bd ∧ ∀ k, 1 ≤ k → k < q → off * k ≤ dstN' x S k * bd
theorem BestN.take {x S q bn bd off : Int} (h : BestN x S q bn bd off) (hq : 1 ≤ q) (hc : bd = 0 ∨ dstN' x S q * bd < off * q) : BestN x S (q + 1) (rndN x S q) q (dstN' x S q) := by
  refine ⟨fun h9 => by omega, fun _ => ⟨hq, by omega, rfl, rfl, fun k h1 h2 => ?_⟩⟩
  rcases Int.lt_trichotomy k q with h3 | h3 | h3
  · have hn1 : q ≠ 1 := by omega
    obtain ⟨p1, p2, p3, p4, p5⟩ := h.pos hn1
    have hc' : dstN' x S q * bd < off * q := by
      rcases hc with h0 | h0
      · omega
      · exact h0
    have h5 := p5 k h1 h3
    -- dst q / q < off / bd ≤ dst k / k
    have a1 : (dstN' x S q * bd) * k ≤ (off * q) * k := Int.mul_le_mul_of_nonneg_right (by omega) (by omega)
    have a2 : (off * k) * q ≤ (dstN' x S k * bd) * q := Int.mul_le_mul_of_nonneg_right h5 (by omega)
    have e1 : (dstN' x S q * bd) * k = (dstN' x S q * k) * bd := by ac_rfl
    have e2 : (off * q) * k = (off * k) * q := by ac_rfl
    have e3 : (dstN' x S k * bd) * q = (dstN' x S k * q) * bd := by ac_rfl
    rw [e1, e2] at a1
    rw [e3] at a2
    exact Int.le_of_mul_le_mul_right (Int.le_trans a1 a2) (by omega)
  · subst h3; exact Int.le_refl _
  · omega
theorem BestN.keep {x S q bn bd off : Int} (h : BestN x S q bn bd off) (hq : 1 ≤ q) (hc : ¬ bd = 0) (hc2 : ¬ dstN' x S q * bd < off * q) : BestN x S (q + 1) bn bd off := by
  have hn1 : q ≠ 1 := fun e => hc (h.first e).2.1
  obtain ⟨p1, p2, p3, p4, p5⟩ := h.pos hn1
  refine ⟨fun h9 => by omega, fun _ => ⟨p1, by omega, p3, p4, fun k h1 h2 => ?_⟩⟩
  rcases Int.lt_or_le k q with h3 | h3
  · exact p5 k h1 h3
  · have : k = q := by omega
    subst this
    omega
set_option maxRecDepth 20000 in
set_option maxHeartbeats 4000000 in
theorem l21Near_fn (x S n W p0 q0 : Int) (hN : NearM x S n W p0 q0) (hx : -3000000000 ≤ x ∧ x ≤ 3000000000) (hS : S = 4 * (n * n * n * W)) : Fn Try.prog tyT 118 [.c (.int .i64 x), .c (.int .i64 S), .c (.int .i64 n)] [.agg (dFr (frOf p0 q0))] := by
  have hb := nW_bd hN.n1 hN.n8 hN.w1 hN.w2
  have hn1 := hN.n1
  have hn8 := hN.n8
  have hq1 := hN.q1
  have hq2 := hN.q2
  have hS2 : 4 ≤ S ∧ S ≤ 2048000 := by omega
  have hD := fun q h1 h2 => l1Down_fn (2 * x * q + S) (2 * S) h1 h2
  have hA := l1Abs_fn
  have hF := l21Frac_fn
  unfold dFr at hF ⊢
  refine Fn_ofR (fn := Try.f118) (rs := [.cell 6 50]) tyOk tyPos Try.func118 (by kernel_rfl) rfl rfl (by rw [Try.ntmps118]; exact Nat.le_of_ble_eq_true rfl) rfl (by simp only [szA, List.mem_cons, List.not_mem_nil, or_false, forall_eq_or_imp, forall_eq, VT.cells, szL]; try decide) ?_
  rw [Try.ntmps118]
  simp only [push_cast, ↓brB_true, ↓brB_false, ↓reduceIte, zA, zB, zC, zD, zE, zF, zG, zH, zI, reduceCtorEq]
  refine awp_seq' fun K hK => ?_
  refine awp_region tyOk tyPos [] rfl ?_
  simp only [push_cast, ↓brB_true, ↓brB_false, ↓reduceIte, zA, zB, zC, zD, zE, zF, zG, zH, zI, reduceCtorEq]
  repeat' apply And.intro
  all_goals first | exact True.intro | exact rfl | omega | with_reducible assumption | (simp only [List.length_set, List.length_append, List.length_replicate, List.length_cons, List.length_nil]; omega) | skip
  all_goals first | (refine hK _ ?_; clear hK K) | (simp only [push_cast]; done)
  refine awp_seq' fun K hK => ?_
  refine awp_region tyOk tyPos [] rfl ?_
  simp only [push_cast, ↓brB_true, ↓brB_false, ↓reduceIte, zA, zB, zC, zD, zE, zF, zG, zH, zI, reduceCtorEq]
  repeat' apply And.intro
  all_goals first | exact True.intro | exact rfl | omega | with_reducible assumption | (simp only [List.length_set, List.length_append, List.length_replicate, List.length_cons, List.length_nil]; omega) | skip
  all_goals first | (refine hK _ ?_; clear hK K) | (simp only [push_cast]; done)
  refine awp_seq' fun K hK => ?_
  refine awp_region tyOk tyPos [] rfl ?_
  simp only [push_cast, ↓brB_true, ↓brB_false, ↓reduceIte, zA, zB, zC, zD, zE, zF, zG, zH, zI, reduceCtorEq]
  repeat' apply And.intro
  all_goals first | exact True.intro | exact rfl | omega | with_reducible assumption | (simp only [List.length_set, List.length_append, List.length_replicate, List.length_cons, List.length_nil]; omega) | skip
  all_goals first | (refine hK _ ?_; clear hK K) | (simp only [push_cast]; done)
  refine awp_seq' fun K1 hK1 => ?_
  refine awp_seq' fun K hK => ?_
  refine awp_region tyOk tyPos [] rfl ?_
  simp only [push_cast, ↓brB_true, ↓brB_false, ↓reduceIte, zA, zB, zC, zD, zE, zF, zG, zH, zI, reduceCtorEq]
  repeat' apply And.intro
  all_goals first | exact True.intro | exact rfl | omega | with_reducible assumption | (simp only [List.length_set, List.length_append, List.length_replicate, List.length_cons, List.length_nil]; omega) | skip
  all_goals first | (refine hK _ ?_; clear hK K) | (simp only [push_cast]; done)
  refine awp_block ?_
  refine awp_loopU [7,8,9,10,11,13,14,15,16,17,18,19,20,21,22,23,24,25,26,27,28,29,30,31,32,33,34,35,36,37,38,39,40,41,42,43,44,45,46,47,48,49,50,51] [] (fun (u : Int × Int × Int × Int) => [(9, .int .i64 u.1), (8, .int .i64 u.2.2.2), (7, .bp 7 0)]) (fun u => [(7, [.int .i64 u.2.1, .int .i64 u.2.2.1])]) (fun u => []) (fun u => 1 ≤ u.1 ∧ u.1 ≤ n + 1 ∧ BestN x S u.1 u.2.1 u.2.2.1 u.2.2.2) (fun u => (n + 1 - u.1).toNat) (1, 0, 0, 0) ?_ ⟨by omega, by omega, ⟨fun _ => ⟨rfl, rfl, rfl⟩, fun h => absurd rfl h⟩⟩ ?_
  ·
    refine cov_of rfl ?_ ?_ ?_ <;> simp only [covS, covL, push_cast, ↓brB_true, ↓brB_false, ↓reduceIte, zA, zB, zC, zD, zE, zF, zG, zH, zI, reduceCtorEq]
  · rintro ⟨q, bn, bd, off⟩ ⟨hk1, hk2, hB⟩ KL0 hL0
    simp only at hk1 hk2 hB
    have hb1 := mul_bd (x := x) (q := q) (X := 3000000000) (Q := 9) hx (by omega) (by omega) (by omega)
    have hb2 : 2 * x * q = 2 * (x * q) := Int.mul_assoc ..
    have hr := rnd_le (x := x) (q := q) (S := S) (by omega)
    have hd := dst_le (x := x) (q := q) (S := S) (by omega)
    have hbd : 0 ≤ bd ∧ bd ≤ 8 ∧ 0 ≤ off ∧ off ≤ 2048000 := by
      by_cases h9 : q = 1
      · have := hB.first h9; omega
      · have h8 := hB.pos h9
        have := dst_le (x := x) (q := bd) (S := S) (by omega)
        omega
    have hm1 := mul_bd (x := dstN' x S q) (q := bd) (X := 2048000) (Q := 8) (by omega) (by omega) (by omega) (by omega)
    have hm2 := mul_bd (x := off) (q := q) (X := 2048000) (Q := 9) (by omega) (by omega) (by omega) (by omega)
    simp only [push_cast, ↓brB_true, ↓brB_false, ↓reduceIte, zA, zB, zC, zD, zE, zF, zG, zH, zI, reduceCtorEq]
    refine awp_seq' fun K2 hK2 => ?_
    refine awp_seq' fun K hK => ?_
    refine awp_region tyOk tyPos [] rfl ?_
    simp only [push_cast, ↓brB_true, ↓brB_false, ↓reduceIte, zA, zB, zC, zD, zE, zF, zG, zH, zI, reduceCtorEq]
    repeat' apply And.intro
    all_goals first | exact True.intro | exact rfl | omega | with_reducible assumption | (simp only [List.length_set, List.length_append, List.length_replicate, List.length_cons, List.length_nil]; omega) | skip
    all_goals first | (refine hK _ ?_; clear hK K) | (simp only [push_cast]; done)
    refine awp_cond rfl (fun hc => ?_) (fun hc => ?_) <;> (try simp only [push_cast] at hc)
    ·
      refine awp_skip ?_
      (try simp only [AThen, ABlk, reduceIte, zF]); refine hK2 _ ?_
      refine awp_seq' fun K3 hK3 => ?_
      refine awp_block ?_
      refine awp_seq' fun K hK => ?_
      refine awp_region tyOk tyPos [] rfl ?_
      all_goals refine aops_cut 9 fun K9 hK9 => ?_
      all_goals simp only [push_cast, ↓brB_true, ↓brB_false, ↓reduceIte, zA, zB, zC, zD, zE, zF, zG, zH, zI, reduceCtorEq]
      all_goals repeat' (first | (apply brB_mk <;> (intro hg; (try simp only [push_cast] at hg))) | (refine ⟨_, hD q (by omega) (by omega), ?_⟩; simp only [push_cast, ↓brB_true, ↓brB_false, ↓reduceIte, zA, zB, zC, zD, zE, zF, zG, zH, zI, reduceCtorEq]) | apply And.intro | (intro hg; (try simp only [push_cast] at hg)))
      all_goals first | exact True.intro | exact rfl | contradiction | omega | with_reducible assumption | skip
      all_goals first | (refine hK9 _ ?_; clear hK9 K9) | (simp only [push_cast]; done)
      all_goals simp only [push_cast, ↓brB_true, ↓brB_false, ↓reduceIte, zA, zB, zC, zD, zE, zF, zG, zH, zI, reduceCtorEq]
      all_goals repeat' (first | (apply brB_mk <;> (intro hg; (try simp only [push_cast] at hg))) | (refine ⟨_, hD q (by omega) (by omega), ?_⟩; simp only [push_cast, ↓brB_true, ↓brB_false, ↓reduceIte, zA, zB, zC, zD, zE, zF, zG, zH, zI, reduceCtorEq]) | apply And.intro | (intro hg; (try simp only [push_cast] at hg)))
      all_goals first | exact True.intro | exact rfl | contradiction | omega | with_reducible assumption | skip
      all_goals first | (refine hK _ ?_; clear hK K) | (simp only [push_cast]; done)
      rw [show (2 * x * q + S) / (2 * S) = rndN x S q from rfl]
      refine awp_seq' fun K hK => ?_
      refine awp_region tyOk tyPos [] rfl ?_
      all_goals refine aops_cut 8 fun K9 hK9 => ?_
      all_goals simp only [push_cast, ↓brB_true, ↓brB_false, ↓reduceIte, zA, zB, zC, zD, zE, zF, zG, zH, zI, reduceCtorEq]
      all_goals repeat' (first | (apply brB_mk <;> (intro hg; (try simp only [push_cast] at hg))) | (refine ⟨_, hA _ (by omega), ?_⟩; simp only [push_cast, ↓brB_true, ↓brB_false, ↓reduceIte, zA, zB, zC, zD, zE, zF, zG, zH, zI, reduceCtorEq]) | apply And.intro | (intro hg; (try simp only [push_cast] at hg)))
      all_goals first | exact True.intro | exact rfl | contradiction | omega | with_reducible assumption | skip
      all_goals first | (refine hK9 _ ?_; clear hK9 K9) | (simp only [push_cast]; done)
      all_goals simp only [push_cast, ↓brB_true, ↓brB_false, ↓reduceIte, zA, zB, zC, zD, zE, zF, zG, zH, zI, reduceCtorEq]
      all_goals repeat' (first | (apply brB_mk <;> (intro hg; (try simp only [push_cast] at hg))) | (refine ⟨_, hA _ (by omega), ?_⟩; simp only [push_cast, ↓brB_true, ↓brB_false, ↓reduceIte, zA, zB, zC, zD, zE, zF, zG, zH, zI, reduceCtorEq]) | apply And.intro | (intro hg; (try simp only [push_cast] at hg)))
      all_goals first | exact True.intro | exact rfl | contradiction | omega | with_reducible assumption | skip
      all_goals first | (refine hK _ ?_; clear hK K) | (simp only [push_cast]; done)
      rw [show ((x * q - rndN x S q * S).natAbs : Int) = dstN' x S q from rfl]
      refine awp_seq' fun K hK => ?_
      refine awp_regionN false tyOk tyPos ?_ rfl ?_
      · kernel_rfl
      all_goals simp only [push_cast, ↓brB_true, ↓brB_false, ↓reduceIte, zA, zB, zC, zD, zE, zF, zG, zH, zI, reduceCtorEq]
      all_goals repeat' (first | (apply brB_mk <;> (intro hg; (try simp only [push_cast] at hg))) | apply And.intro | (intro hg; (try simp only [push_cast] at hg)))
      all_goals first | exact True.intro | exact rfl | contradiction | omega | with_reducible assumption | skip
      all_goals first | (refine hK _ ?_; clear hK K) | (simp only [push_cast]; done)
      all_goals refine awp_cond rfl (fun hc => ?_) (fun hc => ?_)
      all_goals (first | (cases hc; done) | skip)
      all_goals (try simp only [push_cast] at hc)
      all_goals first
        | (
            refine awp_skip ?_
            (try simp only [AThen, ABlk, reduceIte, zF]); refine hK3 _ ?_
            refine awp_region tyOk tyPos [] rfl ?_
            simp only [push_cast, ↓brB_true, ↓brB_false, ↓reduceIte, zA, zB, zC, zD, zE, zF, zG, zH, zI, reduceCtorEq]
            repeat' apply And.intro
            all_goals first | exact True.intro | exact rfl | omega | with_reducible assumption | (simp only [List.length_set, List.length_append, List.length_replicate, List.length_cons, List.length_nil]; omega) | skip
            refine hL0 _ ⟨(q + 1, bn, bd, off), ⟨by simp only; omega, by simp only; omega, hB.keep (by omega) (by omega) (by omega)⟩, by simp only; omega, ?_⟩
            refine cov_of rfl ?_ ?_ ?_ <;> simp only [covS, covL, push_cast, ↓brB_true, ↓brB_false, ↓reduceIte, zA, zB, zC, zD, zE, zF, zG, zH, zI, reduceCtorEq]
            done)
        | (
            refine awp_seq' fun K hK => ?_
            refine awp_region tyOk tyPos [] rfl ?_
            simp only [push_cast, ↓brB_true, ↓brB_false, ↓reduceIte, zA, zB, zC, zD, zE, zF, zG, zH, zI, reduceCtorEq]
            repeat' apply And.intro
            all_goals first | exact True.intro | exact rfl | omega | with_reducible assumption | (simp only [List.length_set, List.length_append, List.length_replicate, List.length_cons, List.length_nil]; omega) | skip
            all_goals first | (refine hK _ ?_; clear hK K) | (simp only [push_cast]; done)
            refine awp_region tyOk tyPos [] rfl ?_
            simp only [push_cast, ↓brB_true, ↓brB_false, ↓reduceIte, zA, zB, zC, zD, zE, zF, zG, zH, zI, reduceCtorEq]
            repeat' apply And.intro
            all_goals first | exact True.intro | exact rfl | omega | with_reducible assumption | (simp only [List.length_set, List.length_append, List.length_replicate, List.length_cons, List.length_nil]; omega) | skip
            (try simp only [AThen, ABlk, reduceIte, zF]); refine hK3 _ ?_
            refine awp_region tyOk tyPos [] rfl ?_
            simp only [push_cast, ↓brB_true, ↓brB_false, ↓reduceIte, zA, zB, zC, zD, zE, zF, zG, zH, zI, reduceCtorEq]
            repeat' apply And.intro
            all_goals first | exact True.intro | exact rfl | omega | with_reducible assumption | (simp only [List.length_set, List.length_append, List.length_replicate, List.length_cons, List.length_nil]; omega) | skip
            refine hL0 _ ⟨(q + 1, rndN x S q, q, dstN' x S q), ⟨by simp only; omega, by simp only; omega, hB.take (by omega) (by omega)⟩, by simp only; omega, ?_⟩
            refine cov_of rfl ?_ ?_ ?_ <;> simp only [covS, covL, push_cast, ↓brB_true, ↓brB_false, ↓reduceIte, zA, zB, zC, zD, zE, zF, zG, zH, zI, reduceCtorEq]
            done)
    ·
      refine awp_exit ?_
      (try simp only [AThen, ABlk, reduceIte, zF]); refine hK1 _ ?_
      have hqn : q = n + 1 := by omega
      obtain ⟨p1, p2, p3, p4, p5⟩ := hB.pos (by omega)
      have hbr := mul_bd (x := x) (q := bd) (X := 3000000000) (Q := 9) hx (by omega) (by omega) (by omega)
      have hrb := rnd_le (x := x) (q := bd) (S := S) (by omega)
      have hrn : -30000000000 ≤ bn ∧ bn ≤ 30000000000 := by rw [p3]; exact rnd_bd (by omega) (by omega) hrb
      have hfin := near_final (bn := bn) (off := off) hN hS p1 (by omega) (by rw [p4, p3]; rfl) (p5 q0 (by omega) (by omega))
      refine awp_seq' fun K hK => ?_
      refine awp_region tyOk tyPos [] rfl ?_
      all_goals refine aops_cut 5 fun K9 hK9 => ?_
      all_goals simp only [push_cast, ↓brB_true, ↓brB_false, ↓reduceIte, zA, zB, zC, zD, zE, zF, zG, zH, zI, reduceCtorEq]
      all_goals repeat' (first | (apply brB_mk <;> (intro hg; (try simp only [push_cast] at hg))) | (refine ⟨_, hF bn bd (by omega) (by omega), ?_⟩; simp only [push_cast, ↓brB_true, ↓brB_false, ↓reduceIte, zA, zB, zC, zD, zE, zF, zG, zH, zI, reduceCtorEq]) | apply And.intro | (intro hg; (try simp only [push_cast] at hg)))
      all_goals first | exact True.intro | exact rfl | contradiction | omega | with_reducible assumption | skip
      all_goals first | (refine hK9 _ ?_; clear hK9 K9) | (simp only [push_cast]; done)
      all_goals simp only [push_cast, ↓brB_true, ↓brB_false, ↓reduceIte, zA, zB, zC, zD, zE, zF, zG, zH, zI, reduceCtorEq]
      all_goals repeat' (first | (apply brB_mk <;> (intro hg; (try simp only [push_cast] at hg))) | (refine ⟨_, hF bn bd (by omega) (by omega), ?_⟩; simp only [push_cast, ↓brB_true, ↓brB_false, ↓reduceIte, zA, zB, zC, zD, zE, zF, zG, zH, zI, reduceCtorEq]) | apply And.intro | (intro hg; (try simp only [push_cast] at hg)))
      all_goals first | exact True.intro | exact rfl | contradiction | omega | with_reducible assumption | skip
      all_goals first | (refine hK _ ?_; clear hK K) | (simp only [push_cast]; done)
      refine awp_ret ?_
      (try simp only [AThen, ABlk])
      refine ⟨Or.inl rfl, ?_⟩
      simp only [RetOk, resVars, resVar, push_cast, ↓brB_true, ↓brB_false, ↓reduceIte, zA, zB, zC, zD, zE, zF, zG, zH, zI, reduceCtorEq]
      rw [← hfin]
      first | rfl | exact ⟨rfl, rfl⟩ | (simp; done)
end Go.Proofs.Ytdbecmmeifdafaa
