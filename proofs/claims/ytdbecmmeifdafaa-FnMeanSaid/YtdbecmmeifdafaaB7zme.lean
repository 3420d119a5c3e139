/- the least credits, as a least list above its own needs: plain -/
import Derived.Test.YtdbecmmeifdafaaGWzme
import Derived.Test.YtdbecmmeifdafaaB4zme

namespace Go.Proofs.Ytdbecmmeifdafaa
open Nat renaming reduceMod → zA, reduceMul → zB, reduceDiv → zC, reduceAdd → zD, reduceSub → zE, reduceEqDiff → zF, reduceBEq → zG, reduceLT → zH, reduceLeDiff → zI
open Go.RowKit
set_option linter.unusedVariables false
set_option linter.unusedSimpArgs false

structure WSh (w : Wt) : Prop where
  ok : arenaB w.a = true
  n1 : 1 ≤ w.a.owner.length
  n2 : w.a.owner.length ≤ 24
  nl : w.a.next.length = w.a.owner.length
  cl : w.cost.length = w.a.owner.length
  row : ∀ v, v < w.a.owner.length → (gl w.cost v).length = (gl w.a.next v).length ∧ 1 ≤ (gl w.a.next v).length ∧ (gl w.a.next v).length ≤ 16
  bd : ∀ v, v < w.a.owner.length → ∀ j, j < (gl w.a.next v).length → -20000 ≤ gi (gl w.cost v) j ∧ gi (gl w.cost v) j ≤ 20000
  to : ∀ v, v < w.a.owner.length → ∀ j, j < (gl w.a.next v).length → 0 ≤ gi (gl w.a.next v) j ∧ gi (gl w.a.next v) j < w.a.owner.length
  own : ∀ v, v < w.a.owner.length → gi w.a.owner v = 0 ∨ gi w.a.owner v = 1
def worstI : Int → List Int → Int
  | m, [] => m
  | m, c :: r => worstI (if -c > m then -c else m) r
def worstR : Int → List (List Int) → Int
  | m, [] => m
  | m, r :: rs => worstR (worstI m r) rs
theorem worstI_app (m : Int) (a b : List Int) : worstI m (a ++ b) = worstI (worstI m a) b := by
  induction a generalizing m with
  | nil => rfl
  | cons x a ih => exact ih _
theorem worstR_app (m : Int) (a b : List (List Int)) : worstR m (a ++ b) = worstR (worstR m a) b := by
  induction a generalizing m with
  | nil => rfl
  | cons x a ih => exact ih _
theorem worstI_take {m : Int} {r : List Int} {k : Nat} (h : k < r.length) : worstI m (r.take (k + 1)) = if -gi r k > worstI m (r.take k) then -gi r k else worstI m (r.take k) := by
  rw [List.take_add_one, gi_lt h, worstI_app]
  rfl
theorem worstR_take {m : Int} {rs : List (List Int)} {k : Nat} (h : k < rs.length) : worstR m (rs.take (k + 1)) = worstI (worstR m (rs.take k)) (gl rs k) := by
  rw [List.take_add_one, gl_lt h, worstR_app]
  rfl
theorem worstI_le {B : Int} {r : List Int} (h : ∀ x ∈ r, -B ≤ x) : ∀ {m : Int}, 0 ≤ m → m ≤ B → 0 ≤ worstI m r ∧ worstI m r ≤ B := by
  induction r with
  | nil => intro m h0 h1; exact ⟨h0, h1⟩
  | cons x r ih =>
    intro m h0 h1
    have hx := h x List.mem_cons_self
    unfold worstI
    split
    · exact ih (fun y hy => h y (List.mem_cons_of_mem _ hy)) (by omega) (by omega)
    · exact ih (fun y hy => h y (List.mem_cons_of_mem _ hy)) h0 h1
theorem worstR_le {B : Int} {rs : List (List Int)} (h : ∀ r ∈ rs, ∀ x ∈ r, -B ≤ x) : ∀ {m : Int}, 0 ≤ m → m ≤ B → 0 ≤ worstR m rs ∧ worstR m rs ≤ B := by
  induction rs with
  | nil => intro m h0 h1; exact ⟨h0, h1⟩
  | cons x r ih =>
    intro m h0 h1
    have hx := worstI_le (h x List.mem_cons_self) h0 h1
    exact ih (fun y hy => h y (List.mem_cons_of_mem _ hy)) hx.1 hx.2
def boundW (w : Wt) : Int := ((w.a.owner.length : Int) - 1) * worstR 0 w.cost
theorem mem_gi {xs : List Int} {x : Int} (h : x ∈ xs) : ∃ k, k < xs.length ∧ gi xs k = x := by
  obtain ⟨k, hk, rfl⟩ := List.getElem_of_mem h
  refine ⟨k, hk, ?_⟩
  unfold gi
  rw [List.getD_eq_getElem?_getD, List.getElem?_eq_getElem hk]
  rfl
theorem mem_gl {xs : List (List Int)} {x : List Int} (h : x ∈ xs) : ∃ k, k < xs.length ∧ gl xs k = x := by
  obtain ⟨k, hk, rfl⟩ := List.getElem_of_mem h
  refine ⟨k, hk, ?_⟩
  unfold gl
  rw [List.getD_eq_getElem?_getD, List.getElem?_eq_getElem hk]
  rfl
theorem WSh.worst {w : Wt} (h : WSh w) (k : Nat) : 0 ≤ worstR 0 (w.cost.take k) ∧ worstR 0 (w.cost.take k) ≤ 20000 := by
  refine worstR_le (fun r hr x hx => ?_) (Int.le_refl _) (by omega)
  obtain ⟨v, hv, rfl⟩ := mem_gl (List.mem_of_mem_take hr)
  obtain ⟨j, hj, rfl⟩ := mem_gi hx
  have hv' : v < w.a.owner.length := by have := h.cl; omega
  exact (h.bd v hv' j (by have := (h.row v hv').1; omega)).1
theorem WSh.bound {w : Wt} (h : WSh w) : 0 ≤ boundW w ∧ boundW w ≤ 460000 := by
  have h1 := h.worst w.cost.length
  rw [List.take_length] at h1
  have h2 := h.n1
  have h3 := h.n2
  unfold boundW
  constructor
  · exact Int.mul_nonneg (by omega) h1.1
  · have h4 : ((w.a.owner.length : Int) - 1) * worstR 0 w.cost ≤ 23 * worstR 0 w.cost := Int.mul_le_mul_of_nonneg_right (by omega) h1.1
    omega
def need0 (w : Wt) (b : Int) (c : List Int) (v j : Nat) : Int :=
  if gi c (gi (gl w.a.next v) j).toNat > b then b + 1 else if gi c (gi (gl w.a.next v) j).toNat - gi (gl w.cost v) j > 0 then gi c (gi (gl w.a.next v) j).toNat - gi (gl w.cost v) j else 0
def bestN (o : Int) (f : Nat → Int) : Nat → Int
  | 0 => -1
  | k + 1 => if bestN o f k < 0 ∨ (o = 0 ∧ f k < bestN o f k) ∨ (o = 1 ∧ f k > bestN o f k) then f k else bestN o f k
theorem bestN_s (o : Int) (f : Nat → Int) (k : Nat) : bestN o f (k + 1) = if bestN o f k < 0 ∨ (o = 0 ∧ f k < bestN o f k) ∨ (o = 1 ∧ f k > bestN o f k) then f k else bestN o f k := rfl
theorem bestN_1 (o : Int) (f : Nat → Int) : bestN o f 1 = f 0 := by
  rw [bestN_s, if_pos (Or.inl (by simp [bestN]))]
def capB (b x : Int) : Int := if b + 1 < x then b + 1 else x
def stepT (w : Wt) (b : Int) (c : List Int) (v : Nat) : Int := capB b (bestN (gi w.a.owner v) (need0 w b c v) (gl w.a.next v).length)
def decB (b x : Int) : Int := if x > b then -1 else x
theorem need0_nn {w : Wt} {b : Int} {c : List Int} {v j : Nat} (hb : 0 ≤ b) : 0 ≤ need0 w b c v j := by unfold need0; split <;> (try split) <;> omega
theorem bestN_nn {o : Int} {f : Nat → Int} (hf : ∀ j, 0 ≤ f j) : ∀ k, 1 ≤ k → 0 ≤ bestN o f k
  | 1, _ => by rw [bestN_1]; exact hf 0
  | k + 2, _ => by have h1 := bestN_nn (o := o) hf (k + 1) (by omega); have h2 := hf (k + 1); rw [bestN_s o f (k + 1)]; split <;> omega
theorem bestN_ge {o : Int} {f : Nat → Int} (hf : ∀ j, 0 ≤ f j) : ∀ k, -1 ≤ bestN o f k
  | 0 => by simp only [bestN]; omega
  | k + 1 => by have h1 := bestN_nn (o := o) hf (k + 1) (by omega); omega
theorem bestN_mono {o : Int} (ho : o = 0 ∨ o = 1) {f g : Nat → Int} (hf : ∀ j, 0 ≤ f j) (hg : ∀ j, 0 ≤ g j) : ∀ k, (∀ j, j < k → f j ≤ g j) → bestN o f k ≤ bestN o g k
  | 0, _ => Int.le_refl _
  | 1, h => by rw [bestN_1, bestN_1]; exact h 0 (by omega)
  | k + 2, h => by
    have h1 := bestN_mono ho hf hg (k + 1) (fun j hj => h j (by omega))
    have h2 := h (k + 1) (by omega)
    have h3 := bestN_nn (o := o) hf (k + 1) (by omega)
    have h4 := bestN_nn (o := o) hg (k + 1) (by omega)
    rw [bestN_s o f (k + 1), bestN_s o g (k + 1)]
    rcases ho with rfl | rfl <;> split <;> split <;> omega
theorem need0_mono {w : Wt} {b : Int} {c d : List Int} {v j : Nat} (hb : 0 ≤ b) (hB : gi d (gi (gl w.a.next v) j).toNat ≤ b + 1) (h : gi c (gi (gl w.a.next v) j).toNat ≤ gi d (gi (gl w.a.next v) j).toNat) : capB b (need0 w b c v j) ≤ capB b (need0 w b d v j) := by
  unfold need0 capB
  split <;> split <;> split <;> (try split) <;> omega
theorem bestN_cap {o b : Int} (ho : o = 0 ∨ o = 1) (hb : 0 ≤ b) {f : Nat → Int} (hf : ∀ j, 0 ≤ f j) : ∀ k, capB b (bestN o f k) = bestN o (fun j => capB b (f j)) k
  | 0 => by
    show capB b (-1) = -1
    unfold capB
    rw [if_neg (by omega)]
  | k + 1 => by
    have h1 := bestN_cap ho hb hf k
    have h2 := hf k
    have h3 := bestN_ge (o := o) hf k
    rw [bestN_s, bestN_s, ← h1]
    unfold capB
    rcases ho with rfl | rfl <;> split <;> split <;> split <;> (try split) <;> omega
theorem capB_nn {b x : Int} (hb : 0 ≤ b) (h : 0 ≤ x) : 0 ≤ capB b x := by unfold capB; split <;> omega
theorem stepT_mono {w : Wt} (hw : WSh w) {b : Int} (hb : 0 ≤ b) {c d : List Int} {v : Nat} (hv : v < w.a.owner.length) (hB : ∀ u, u < w.a.owner.length → gi d u ≤ b + 1) (h : ∀ u, u < w.a.owner.length → gi c u ≤ gi d u) : stepT w b c v ≤ stepT w b d v := by
  unfold stepT
  rw [bestN_cap (hw.own v hv) hb fun j => need0_nn hb, bestN_cap (hw.own v hv) hb fun j => need0_nn hb]
  refine bestN_mono (hw.own v hv) (fun j => capB_nn hb (need0_nn hb)) (fun j => capB_nn hb (need0_nn hb)) _ fun j hj => ?_
  have ht := hw.to v hv j hj
  exact need0_mono hb (hB _ (by omega)) (h _ (by omega))
theorem stepT_rg {w : Wt} (hw : WSh w) {b : Int} (hb : 0 ≤ b) {c : List Int} {v : Nat} (hv : v < w.a.owner.length) : 0 ≤ stepT w b c v ∧ stepT w b c v ≤ b + 1 := by
  have h1 := bestN_nn (o := gi w.a.owner v) (f := need0 w b c v) (fun j => need0_nn hb) (gl w.a.next v).length (hw.row v hv).2.1
  unfold stepT capB
  split <;> omega
structure PreC (w : Wt) (b : Int) (d : List Int) : Prop where
  len : d.length = w.a.owner.length
  rg : ∀ v, v < w.a.owner.length → 0 ≤ gi d v ∧ gi d v ≤ b + 1
  pre : ∀ v, v < w.a.owner.length → stepT w b d v ≤ gi d v
structure LowC (w : Wt) (b : Int) (c : List Int) : Prop where
  len : c.length = w.a.owner.length
  rg : ∀ v, v < w.a.owner.length → 0 ≤ gi c v ∧ gi c v ≤ b + 1
  up : ∀ v, v < w.a.owner.length → gi c v ≤ stepT w b c v
  low : ∀ d, PreC w b d → ∀ v, v < w.a.owner.length → gi c v ≤ gi d v
structure Least (w : Wt) (b : Int) (c : List Int) : Prop extends LowC w b c where
  pre : ∀ v, v < w.a.owner.length → stepT w b c v ≤ gi c v
theorem gi_set {c : List Int} {v u : Nat} {x : Int} (hv : v < c.length) : gi (c.set v x) u = if u = v then x else gi c u := by
  unfold gi
  rw [List.getD_eq_getElem?_getD, List.getElem?_set]
  split
  · rename_i h; subst h; simp [hv]
  · rename_i h; rw [if_neg (by omega), List.getD_eq_getElem?_getD]
theorem gi_zero {n v : Nat} : gi (List.replicate n 0) v = 0 := by
  unfold gi
  rw [List.getD_eq_getElem?_getD, List.getElem?_replicate]
  split <;> rfl
theorem LowC.zero {w : Wt} (hw : WSh w) {b : Int} (hb : 0 ≤ b) : LowC w b (List.replicate w.a.owner.length 0) where
  len := by simp
  rg v hv := by rw [gi_zero]; omega
  up v hv := by rw [gi_zero]; exact (stepT_rg hw hb hv).1
  low d hd v hv := by rw [gi_zero]; exact (hd.rg v hv).1
theorem LowC.set {w : Wt} (hw : WSh w) {b : Int} (hb : 0 ≤ b) {c : List Int} (h : LowC w b c) {v : Nat} (hv : v < w.a.owner.length) : LowC w b (c.set v (stepT w b c v)) := by
  have hr := stepT_rg hw hb (c := c) hv
  have hl := h.len
  have hle : ∀ u, u < w.a.owner.length → gi c u ≤ gi (c.set v (stepT w b c v)) u := fun u hu => by
    rw [gi_set (by omega)]
    split
    · rename_i e; subst e; exact h.up u hu
    · exact Int.le_refl _
  have hrg : ∀ u, u < w.a.owner.length → 0 ≤ gi (c.set v (stepT w b c v)) u ∧ gi (c.set v (stepT w b c v)) u ≤ b + 1 := fun u hu => by
    rw [gi_set (by omega)]
    split
    · exact hr
    · exact h.rg u hu
  refine ⟨by simp [hl], hrg, fun u hu => ?_, fun d hd u hu => ?_⟩
  · refine Int.le_trans ?_ (stepT_mono hw hb hu (fun x hx => (hrg x hx).2) hle)
    rw [gi_set (by omega)]
    split
    · rename_i e; subst e; exact Int.le_refl _
    · exact h.up u hu
  · rw [gi_set (by omega)]
    split
    · rename_i e; subst e
      exact Int.le_trans (stepT_mono hw hb hu (fun x hx => (hd.rg x hx).2) (fun x hx => h.low d hd x hx)) (hd.pre u hu)
    · exact h.low d hd u hu
theorem gi_ext {a b : List Int} (hl : a.length = b.length) (h : ∀ v, v < a.length → gi a v = gi b v) : a = b := by
  refine List.ext_getElem? fun i => ?_
  by_cases hi : i < a.length
  · rw [gi_lt hi, gi_lt (by omega), h i hi]
  · rw [List.getElem?_eq_none (by omega), List.getElem?_eq_none (by omega)]
theorem Least.uniq {w : Wt} {b : Int} {c d : List Int} (h1 : Least w b c) (h2 : Least w b d) : c = d := by
  refine gi_ext (by rw [h1.len, h2.len]) fun v hv => ?_
  rw [h1.len] at hv
  have e1 := h1.low d ⟨h2.len, h2.rg, h2.pre⟩ v hv
  have e2 := h2.low c ⟨h1.len, h1.rg, h1.pre⟩ v hv
  omega
def roomC (b : Int) : List Int → Nat
  | [] => 0
  | x :: c => (b + 1 - x).toNat + roomC b c
theorem roomC_set {b x : Int} : ∀ {c : List Int} {v : Nat}, v < c.length → gi c v < x → x ≤ b + 1 → roomC b (c.set v x) < roomC b c
  | y :: c, 0, _, h1, h2 => by
    have h1 : y < x := h1
    simp only [List.set_cons_zero, roomC]
    omega
  | y :: c, v + 1, h0, h1, h2 => by
    have := roomC_set (b := b) (x := x) (c := c) (v := v) (by simpa using h0) h1 h2
    simp only [List.set_cons_succ, roomC]
    omega
theorem least_ex {w : Wt} (hw : WSh w) {b : Int} (hb : 0 ≤ b) : ∃ c, Least w b c := by
  have key : ∀ m (c : List Int), LowC w b c → roomC b c ≤ m → ∃ c, Least w b c := by
    intro m
    induction m with
    | zero =>
      intro c hc h0
      refine ⟨c, hc, fun v hv => ?_⟩
      have := hc.up v hv
      by_cases e : gi c v < stepT w b c v
      · have := roomC_set (b := b) (by rw [hc.len]; exact hv) e (stepT_rg hw hb hv).2
        omega
      · omega
    | succ m ih =>
      intro c hc h0
      by_cases e : ∃ v, v < w.a.owner.length ∧ gi c v < stepT w b c v
      · obtain ⟨v, hv, e⟩ := e
        have := roomC_set (b := b) (by rw [hc.len]; exact hv) e (stepT_rg hw hb hv).2
        exact ih _ (hc.set hw hb hv) (by omega)
      · refine ⟨c, hc, fun v hv => ?_⟩
        have : ¬ gi c v < stepT w b c v := fun h => e ⟨v, hv, h⟩
        omega
  exact key _ _ (LowC.zero hw hb) (Nat.le_refl _)
theorem setB_at {xs : List Int} {n : Int} (h : isSetB xs n = true) {j : Nat} (hj : j < xs.length) : 0 ≤ gi xs j ∧ gi xs j < n := by
  have := allB_at h hj
  unfold riseAt at this
  have := of_decide_eq_true this
  exact ⟨this.1, this.2.1⟩
theorem wsh_of {w : Wt} (h : weightedB w = true) : WSh w := by
  obtain ⟨h1, h2, h3, h4, h5, h6⟩ := weighted_facts h
  refine ⟨h1, h2, h3, h4, h5, fun v hv => ⟨(h6 v hv).1, (h6 v hv).2.1, (h6 v hv).2.2.1⟩, fun v hv j hj => ?_, fun v hv j hj => ?_, fun v hv => ?_⟩
  · have := (h6 v hv).2.2.2 j (by rw [(h6 v hv).1]; exact hj)
    omega
  · have := arenaB_at h1 hv
    exact setB_at this.2.2.2.2 hj
  · have := arenaB_at h1 hv
    omega
end Go.Proofs.Ytdbecmmeifdafaa

namespace Go.Proofs.Ytdbecmmeifdafaa
open Nat renaming reduceMod → zA, reduceMul → zB, reduceDiv → zC, reduceAdd → zD, reduceSub → zE, reduceEqDiff → zF, reduceBEq → zG, reduceLT → zH, reduceLeDiff → zI
open Go.RowKit
set_option linter.unusedVariables false
set_option linter.unusedSimpArgs false

theorem gi_map {c : List Int} {f : Int → Int} {v : Nat} (h : v < c.length) : gi (c.map f) v = f (gi c v) := by
  unfold gi
  rw [List.getD_eq_getElem?_getD, List.getElem?_map, List.getD_eq_getElem?_getD, List.getElem?_eq_getElem h]
  rfl
theorem worstI_join (a : Int) : ∀ (r : List Int) (m : Int), worstI (if a > m then a else m) r = if a > worstI m r then a else worstI m r
  | [], m => rfl
  | x :: r, m => by
    show worstI (if -x > (if a > m then a else m) then -x else (if a > m then a else m)) r = if a > worstI (if -x > m then -x else m) r then a else worstI (if -x > m then -x else m) r
    rw [← worstI_join a r]
    congr 1
    omega
theorem minW {r : List Int} (h : 1 ≤ r.length) {m : Int} : (if -worstI (-gi r 0) r < -m then -worstI (-gi r 0) r else -m) = -worstI m r := by
  cases r with
  | nil => simp at h
  | cons x r =>
    rw [show gi (x :: r) 0 = x from rfl]
    have h1 := worstI_join m (x :: r) (-x)
    have h2 : worstI (if m > -x then m else -x) (x :: r) = worstI m (x :: r) := by
      simp only [worstI]
      congr 1
      omega
    rw [h2] at h1
    rw [h1]
    omega
set_option maxRecDepth 20000 in
set_option maxHeartbeats 4000000 in
theorem Min_fn (r : List Int) (h : 1 ≤ r.length) (h2 : r.length ≤ 1048576) (hb : ∀ j, j < r.length → -20000 ≤ gi r j ∧ gi r j ≤ 20000) : Fn Try.prog tyT 112 [.c (DI r)] [.c (.int .i64 (-worstI (-gi r 0) r))] := by
  refine Fn_of (fn := Try.f112) (ts := [2]) Try.func112 (by kernel_rfl) rfl rfl (by rw [Try.ntmps112]; exact Nat.le_of_ble_eq_true rfl) rfl (by simp only [szA, List.mem_cons, List.not_mem_nil, or_false, forall_eq_or_imp, forall_eq, VT.cells, szL]; try decide) ?_
  rw [Try.ntmps112]
  simp only [push_cast, ↓brB_true, ↓brB_false, ↓reduceIte, zA, zB, zC, zD, zE, zF, zG, zH, zI, reduceCtorEq]
  refine awp_seq' fun K hK => ?_
  refine awp_region tyOk tyPos [] rfl ?_
  simp only [push_cast, ↓brB_true, ↓brB_false, ↓reduceIte, zA, zB, zC, zD, zE, zF, zG, zH, zI, reduceCtorEq]
  repeat' apply And.intro
  all_goals try exact gB
  all_goals first | (refine hK _ ?_; clear hK K) | (simp only [push_cast]; done)
  refine awp_seq' fun K1 hK1 => ?_
  refine awp_seq' fun K hK => ?_
  refine awp_region tyOk tyPos [] rfl ?_
  simp only [push_cast, ↓brB_true, ↓brB_false, ↓reduceIte, zA, zB, zC, zD, zE, zF, zG, zH, zI, reduceCtorEq]
  repeat' apply And.intro
  all_goals try exact gB
  all_goals first | (refine hK _ ?_; clear hK K) | (simp only [push_cast]; done)
  refine awp_cond rfl (fun hc => ?_) (fun hc => ?_)
  skip
  · exfalso; first | (cases hc; done) | (simp only [push_cast] at hc; done) | (simp only [push_cast] at hc; omega) | omega
  refine awp_skip ?_
  (try simp only [AThen, ABlk, reduceIte, zF]); refine hK1 _ ?_
  refine awp_seq' fun K hK => ?_
  refine awp_region tyOk tyPos [] rfl ?_
  simp only [push_cast, ↓brB_true, ↓brB_false, ↓reduceIte, zA, zB, zC, zD, zE, zF, zG, zH, zI, reduceCtorEq]
  repeat' apply And.intro
  all_goals try exact gB
  all_goals first | (refine hK _ ?_; clear hK K) | (simp only [push_cast]; done)
  refine awp_seq' fun K2 hK2 => ?_
  refine awp_seq' fun K hK => ?_
  refine awp_region tyOk tyPos [] rfl ?_
  simp only [push_cast, ↓brB_true, ↓brB_false, ↓reduceIte, zA, zB, zC, zD, zE, zF, zG, zH, zI, reduceCtorEq]
  repeat' apply And.intro
  all_goals try exact gB
  all_goals first | (refine hK _ ?_; clear hK K) | (simp only [push_cast]; done)
  refine awp_block ?_
  refine awp_loopU [3,4,12,13,14,15,16,17,18,19,20,21,22,23] [] (fun (k : Nat) => [(4, .int .i64 k), (3, .int .i64 (-worstI (-gi r 0) (r.take k)))]) (fun k => []) (fun k => []) (fun k => 1 ≤ k ∧ k ≤ r.length) (fun k => r.length - k) 1 ?_ (by omega) ?_
  ·
    rw [worstI_take (by omega), List.take_zero, show worstI (-gi r 0) [] = -gi r 0 from rfl, if_neg (by omega), Int.neg_neg]
    refine cov_of rfl ?_ ?_ ?_ <;> simp only [covS, covL, push_cast, ↓brB_true, ↓brB_false, ↓reduceIte, zA, zB, zC, zD, zE, zF, zG, zH, zI, reduceCtorEq]
  · rintro k ⟨hk1, hk⟩ KL0 hL0
    simp only [push_cast, ↓brB_true, ↓brB_false, ↓reduceIte, zA, zB, zC, zD, zE, zF, zG, zH, zI, reduceCtorEq]
    refine awp_seq' fun K3 hK3 => ?_
    refine awp_seq' fun K hK => ?_
    refine awp_region tyOk tyPos [] rfl ?_
    simp only [push_cast, ↓brB_true, ↓brB_false, ↓reduceIte, zA, zB, zC, zD, zE, zF, zG, zH, zI, reduceCtorEq]
    repeat' apply And.intro
    all_goals try exact gB
    all_goals first | (refine hK _ ?_; clear hK K) | (simp only [push_cast]; done)
    refine awp_cond rfl (fun hc => ?_) (fun hc => ?_) <;> (try simp only [push_cast] at hc)
    ·
      refine awp_skip ?_
      (try simp only [AThen, ABlk, reduceIte, zF]); refine hK3 _ ?_
      refine awp_seq' fun K4 hK4 => ?_
      refine awp_block ?_
      refine awp_region tyOk tyPos [] rfl ?_
      simp only [push_cast, ↓brB_true, ↓brB_false, ↓reduceIte, zA, zB, zC, zD, zE, zF, zG, zH, zI, reduceCtorEq]
      repeat' apply And.intro
      all_goals try exact gB
      (try simp only [AThen, ABlk, reduceIte, zF]); refine hK4 _ ?_
      refine awp_region tyOk tyPos [] rfl ?_
      simp only [push_cast, ↓brB_true, ↓brB_false, ↓reduceIte, zA, zB, zC, zD, zE, zF, zG, zH, zI, reduceCtorEq]
      repeat' apply And.intro
      all_goals try exact gB
      refine hL0 _ ⟨k + 1, by omega, by omega, ?_⟩
      rw [worstI_take (by omega)]
      refine cov_of rfl ?_ ?_ ?_ <;> simp only [covS, covL, push_cast, ↓brB_true, ↓brB_false, ↓reduceIte, zA, zB, zC, zD, zE, zF, zG, zH, zI, reduceCtorEq]
      all_goals (refine congrArg (AV.int .i64) ?_; omega)
    ·
      refine awp_exit ?_
      (try simp only [AThen, ABlk, reduceIte, zF]); refine hK2 _ ?_
      refine awp_seq' fun K hK => ?_
      refine awp_region tyOk tyPos [] rfl ?_
      simp only [push_cast, ↓brB_true, ↓brB_false, ↓reduceIte, zA, zB, zC, zD, zE, zF, zG, zH, zI, reduceCtorEq]
      repeat' apply And.intro
      all_goals try exact gB
      all_goals first | (refine hK _ ?_; clear hK K) | (simp only [push_cast]; done)
      refine awp_ret ?_
      (try simp only [AThen, ABlk])
      refine ⟨Or.inl rfl, ?_⟩
      simp only [RetOk, push_cast, ↓brB_true, ↓brB_false, ↓reduceIte, zA, zB, zC, zD, zE, zF, zG, zH, zI, reduceCtorEq]
      rw [show k = r.length from by omega, List.take_length]
set_option maxRecDepth 20000 in
set_option maxHeartbeats 4000000 in
theorem creditBound_fn (w : Wt) (ha : w.Ln 1048576) (hw : WSh w) : Fn Try.prog tyT 66 [.agg (dWt w)] [.c (.int .i64 (boundW w))] := by
  have hcr : ∀ v, (gl w.cost v).length ≤ 1048576 := fun v => gl_le ha.cost v
  have hbb := hw.bound
  unfold boundW at hbb
  have hcl := hw.cl
  have hn1 := hw.n1
  have hn2 := hw.n2
  have hno := ha.a.owner
  unfold LnI at hno
  have hcb := hw.worst
  have hM := fun k h => Min_fn (gl w.cost k) (by have := hw.row k h; omega) (hcr k) (fun j hj => hw.bd k h j (by have := hw.row k h; omega))
  have hSz := size_fn w.a
  unfold boundW
  unfold dAr at hSz
  unfold dWt
  refine Fn_of (fn := Try.f66) (ts := [2]) Try.func66 (by kernel_rfl) rfl rfl (by rw [Try.ntmps66]; exact Nat.le_of_ble_eq_true rfl) rfl (by simp only [szA, List.mem_cons, List.not_mem_nil, or_false, forall_eq_or_imp, forall_eq, VT.cells, szL]; try decide) ?_
  rw [Try.ntmps66]
  simp only [push_cast, ↓brB_true, ↓brB_false, ↓reduceIte, zA, zB, zC, zD, zE, zF, zG, zH, zI, reduceCtorEq]
  refine awp_seq' fun K hK => ?_
  refine awp_region tyOk tyPos [] rfl ?_
  all_goals simp only [push_cast, ↓brB_true, ↓brB_false, ↓reduceIte, zA, zB, zC, zD, zE, zF, zG, zH, zI, reduceCtorEq]
  all_goals repeat' (first | (apply brB_mk <;> (intro hg; (try simp only [push_cast] at hg))) | (refine ⟨_, hM k (by omega), ?_⟩; simp only [push_cast, ↓brB_true, ↓brB_false, ↓reduceIte, zA, zB, zC, zD, zE, zF, zG, zH, zI, reduceCtorEq]) | (refine ⟨_, hSz, ?_⟩; simp only [push_cast, ↓brB_true, ↓brB_false, ↓reduceIte, zA, zB, zC, zD, zE, zF, zG, zH, zI, reduceCtorEq]) | (refine ⟨_, hSz hno, ?_⟩; simp only [push_cast, ↓brB_true, ↓brB_false, ↓reduceIte, zA, zB, zC, zD, zE, zF, zG, zH, zI, reduceCtorEq]) | apply And.intro | (intro hg; (try simp only [push_cast] at hg)))
  all_goals first | exact gA | (exact getE_dII (by omega)) | (rw [Int.neg_neg]; omega) | skip
  all_goals first | (refine hK _ ?_; clear hK K) | (simp only [push_cast]; done)
  refine awp_seq' fun K hK => ?_
  refine awp_region tyOk tyPos [] rfl ?_
  all_goals simp only [push_cast, ↓brB_true, ↓brB_false, ↓reduceIte, zA, zB, zC, zD, zE, zF, zG, zH, zI, reduceCtorEq]
  all_goals repeat' (first | (apply brB_mk <;> (intro hg; (try simp only [push_cast] at hg))) | (refine ⟨_, hM k (by omega), ?_⟩; simp only [push_cast, ↓brB_true, ↓brB_false, ↓reduceIte, zA, zB, zC, zD, zE, zF, zG, zH, zI, reduceCtorEq]) | (refine ⟨_, hSz, ?_⟩; simp only [push_cast, ↓brB_true, ↓brB_false, ↓reduceIte, zA, zB, zC, zD, zE, zF, zG, zH, zI, reduceCtorEq]) | (refine ⟨_, hSz hno, ?_⟩; simp only [push_cast, ↓brB_true, ↓brB_false, ↓reduceIte, zA, zB, zC, zD, zE, zF, zG, zH, zI, reduceCtorEq]) | apply And.intro | (intro hg; (try simp only [push_cast] at hg)))
  all_goals first | exact gA | (exact getE_dII (by omega)) | (rw [Int.neg_neg]; omega) | skip
  all_goals first | (refine hK _ ?_; clear hK K) | (simp only [push_cast]; done)
  refine awp_seq' fun K1 hK1 => ?_
  refine awp_seq' fun K hK => ?_
  refine awp_region tyOk tyPos [] rfl ?_
  all_goals simp only [push_cast, ↓brB_true, ↓brB_false, ↓reduceIte, zA, zB, zC, zD, zE, zF, zG, zH, zI, reduceCtorEq]
  all_goals repeat' (first | (apply brB_mk <;> (intro hg; (try simp only [push_cast] at hg))) | (refine ⟨_, hM k (by omega), ?_⟩; simp only [push_cast, ↓brB_true, ↓brB_false, ↓reduceIte, zA, zB, zC, zD, zE, zF, zG, zH, zI, reduceCtorEq]) | (refine ⟨_, hSz, ?_⟩; simp only [push_cast, ↓brB_true, ↓brB_false, ↓reduceIte, zA, zB, zC, zD, zE, zF, zG, zH, zI, reduceCtorEq]) | (refine ⟨_, hSz hno, ?_⟩; simp only [push_cast, ↓brB_true, ↓brB_false, ↓reduceIte, zA, zB, zC, zD, zE, zF, zG, zH, zI, reduceCtorEq]) | apply And.intro | (intro hg; (try simp only [push_cast] at hg)))
  all_goals first | exact gA | (exact getE_dII (by omega)) | (rw [Int.neg_neg]; omega) | skip
  all_goals first | (refine hK _ ?_; clear hK K) | (simp only [push_cast]; done)
  refine awp_block ?_
  refine awp_loopU [3,5,9,10,11,12,13,14,15,16,17] [] (fun (k : Nat) => [(9, .int .i64 k), (3, .int .i64 (-worstR 0 (w.cost.take k)))]) (fun k => []) (fun k => []) (fun k => k ≤ w.cost.length) (fun k => w.cost.length - k) 0 ?_ (by omega) ?_
  ·
    rw [List.take_zero, show -worstR 0 [] = 0 from rfl]
    refine cov_of rfl ?_ ?_ ?_ <;> simp only [covS, covL, push_cast, ↓brB_true, ↓brB_false, ↓reduceIte, zA, zB, zC, zD, zE, zF, zG, zH, zI, reduceCtorEq]
  · rintro k hk KL0 hL0
    have hwr : k < w.cost.length → _ := fun h => hw.row k (by omega)
    have hwk := hcb k
    have hwk1 := hcb (k + 1)
    simp only [push_cast, ↓brB_true, ↓brB_false, ↓reduceIte, zA, zB, zC, zD, zE, zF, zG, zH, zI, reduceCtorEq]
    refine awp_seq' fun K hK => ?_
    refine awp_region tyOk tyPos [] rfl ?_
    all_goals simp only [push_cast, ↓brB_true, ↓brB_false, ↓reduceIte, zA, zB, zC, zD, zE, zF, zG, zH, zI, reduceCtorEq]
    all_goals repeat' (first | (apply brB_mk <;> (intro hg; (try simp only [push_cast] at hg))) | (refine ⟨_, hM k (by omega), ?_⟩; simp only [push_cast, ↓brB_true, ↓brB_false, ↓reduceIte, zA, zB, zC, zD, zE, zF, zG, zH, zI, reduceCtorEq]) | (refine ⟨_, hSz, ?_⟩; simp only [push_cast, ↓brB_true, ↓brB_false, ↓reduceIte, zA, zB, zC, zD, zE, zF, zG, zH, zI, reduceCtorEq]) | (refine ⟨_, hSz hno, ?_⟩; simp only [push_cast, ↓brB_true, ↓brB_false, ↓reduceIte, zA, zB, zC, zD, zE, zF, zG, zH, zI, reduceCtorEq]) | apply And.intro | (intro hg; (try simp only [push_cast] at hg)))
    all_goals first | exact gA | (exact getE_dII (by omega)) | (rw [Int.neg_neg]; omega) | skip
    all_goals first | (refine hK _ ?_; clear hK K) | (simp only [push_cast]; done)
    refine awp_seq' fun K2 hK2 => ?_
    refine awp_cond rfl (fun hc => ?_) (fun hc => ?_) <;> (try simp only [push_cast] at hc)
    ·
      refine awp_skip ?_
      (try simp only [AThen, ABlk, reduceIte, zF]); refine hK2 _ ?_
      refine awp_seq' fun K3 hK3 => ?_
      refine awp_block ?_
      refine awp_seq' fun K hK => ?_
      refine awp_region tyOk tyPos [] rfl ?_
      all_goals simp only [push_cast, ↓brB_true, ↓brB_false, ↓reduceIte, zA, zB, zC, zD, zE, zF, zG, zH, zI, reduceCtorEq]
      all_goals repeat' (first | (apply brB_mk <;> (intro hg; (try simp only [push_cast] at hg))) | (refine ⟨_, hM k (by omega), ?_⟩; simp only [push_cast, ↓brB_true, ↓brB_false, ↓reduceIte, zA, zB, zC, zD, zE, zF, zG, zH, zI, reduceCtorEq]) | (refine ⟨_, hSz, ?_⟩; simp only [push_cast, ↓brB_true, ↓brB_false, ↓reduceIte, zA, zB, zC, zD, zE, zF, zG, zH, zI, reduceCtorEq]) | (refine ⟨_, hSz hno, ?_⟩; simp only [push_cast, ↓brB_true, ↓brB_false, ↓reduceIte, zA, zB, zC, zD, zE, zF, zG, zH, zI, reduceCtorEq]) | apply And.intro | (intro hg; (try simp only [push_cast] at hg)))
      all_goals first | exact gA | (exact getE_dII (by omega)) | (rw [Int.neg_neg]; omega) | skip
      all_goals first | (refine hK _ ?_; clear hK K) | (simp only [push_cast]; done)
      refine awp_region tyOk tyPos [] rfl ?_
      all_goals refine aops_cut 3 fun K9 hK9 => ?_
      all_goals simp only [push_cast, ↓brB_true, ↓brB_false, ↓reduceIte, zA, zB, zC, zD, zE, zF, zG, zH, zI, reduceCtorEq]
      all_goals repeat' (first | (apply brB_mk <;> (intro hg; (try simp only [push_cast] at hg))) | (refine ⟨_, hM k (by omega), ?_⟩; simp only [push_cast, ↓brB_true, ↓brB_false, ↓reduceIte, zA, zB, zC, zD, zE, zF, zG, zH, zI, reduceCtorEq]) | (refine ⟨_, hSz, ?_⟩; simp only [push_cast, ↓brB_true, ↓brB_false, ↓reduceIte, zA, zB, zC, zD, zE, zF, zG, zH, zI, reduceCtorEq]) | (refine ⟨_, hSz hno, ?_⟩; simp only [push_cast, ↓brB_true, ↓brB_false, ↓reduceIte, zA, zB, zC, zD, zE, zF, zG, zH, zI, reduceCtorEq]) | apply And.intro | (intro hg; (try simp only [push_cast] at hg)))
      all_goals first | exact gA | (exact getE_dII (by omega)) | (rw [Int.neg_neg]; omega) | skip
      all_goals first | (refine hK9 _ ?_; clear hK9 K9) | (simp only [push_cast]; done)
      all_goals simp only [push_cast, ↓brB_true, ↓brB_false, ↓reduceIte, zA, zB, zC, zD, zE, zF, zG, zH, zI, reduceCtorEq]
      all_goals repeat' (first | (apply brB_mk <;> (intro hg; (try simp only [push_cast] at hg))) | (refine ⟨_, hM k (by omega), ?_⟩; simp only [push_cast, ↓brB_true, ↓brB_false, ↓reduceIte, zA, zB, zC, zD, zE, zF, zG, zH, zI, reduceCtorEq]) | (refine ⟨_, hSz, ?_⟩; simp only [push_cast, ↓brB_true, ↓brB_false, ↓reduceIte, zA, zB, zC, zD, zE, zF, zG, zH, zI, reduceCtorEq]) | (refine ⟨_, hSz hno, ?_⟩; simp only [push_cast, ↓brB_true, ↓brB_false, ↓reduceIte, zA, zB, zC, zD, zE, zF, zG, zH, zI, reduceCtorEq]) | apply And.intro | (intro hg; (try simp only [push_cast] at hg)))
      all_goals first | exact gA | (exact getE_dII (by omega)) | (rw [Int.neg_neg]; omega) | skip
      (try simp only [AThen, ABlk, reduceIte, zF]); refine hK3 _ ?_
      refine awp_region tyOk tyPos [] rfl ?_
      all_goals simp only [push_cast, ↓brB_true, ↓brB_false, ↓reduceIte, zA, zB, zC, zD, zE, zF, zG, zH, zI, reduceCtorEq]
      all_goals repeat' (first | (apply brB_mk <;> (intro hg; (try simp only [push_cast] at hg))) | (refine ⟨_, hM k (by omega), ?_⟩; simp only [push_cast, ↓brB_true, ↓brB_false, ↓reduceIte, zA, zB, zC, zD, zE, zF, zG, zH, zI, reduceCtorEq]) | (refine ⟨_, hSz, ?_⟩; simp only [push_cast, ↓brB_true, ↓brB_false, ↓reduceIte, zA, zB, zC, zD, zE, zF, zG, zH, zI, reduceCtorEq]) | (refine ⟨_, hSz hno, ?_⟩; simp only [push_cast, ↓brB_true, ↓brB_false, ↓reduceIte, zA, zB, zC, zD, zE, zF, zG, zH, zI, reduceCtorEq]) | apply And.intro | (intro hg; (try simp only [push_cast] at hg)))
      all_goals first | exact gA | (exact getE_dII (by omega)) | (rw [Int.neg_neg]; omega) | skip
      refine hL0 _ ⟨k + 1, by omega, by omega, ?_⟩
      rw [minW (by have := hwr (by omega); omega), worstR_take (by omega)]
      refine cov_of rfl ?_ ?_ ?_ <;> simp only [covS, covL, push_cast, ↓brB_true, ↓brB_false, ↓reduceIte, zA, zB, zC, zD, zE, zF, zG, zH, zI, reduceCtorEq]
    ·
      refine awp_exit ?_
      have hkk : k = w.cost.length := by omega
      subst hkk
      have hwc := hcb w.cost.length
      rw [List.take_length] at hwc ⊢
      (try simp only [AThen, ABlk, reduceIte, zF]); refine hK1 _ ?_
      refine awp_seq' fun K hK => ?_
      refine awp_region tyOk tyPos [] rfl ?_
      all_goals refine aops_cut 3 fun K9 hK9 => ?_
      all_goals simp only [push_cast, ↓brB_true, ↓brB_false, ↓reduceIte, zA, zB, zC, zD, zE, zF, zG, zH, zI, reduceCtorEq]
      all_goals repeat' (first | (apply brB_mk <;> (intro hg; (try simp only [push_cast] at hg))) | (refine ⟨_, hM k (by omega), ?_⟩; simp only [push_cast, ↓brB_true, ↓brB_false, ↓reduceIte, zA, zB, zC, zD, zE, zF, zG, zH, zI, reduceCtorEq]) | (refine ⟨_, hSz, ?_⟩; simp only [push_cast, ↓brB_true, ↓brB_false, ↓reduceIte, zA, zB, zC, zD, zE, zF, zG, zH, zI, reduceCtorEq]) | (refine ⟨_, hSz hno, ?_⟩; simp only [push_cast, ↓brB_true, ↓brB_false, ↓reduceIte, zA, zB, zC, zD, zE, zF, zG, zH, zI, reduceCtorEq]) | apply And.intro | (intro hg; (try simp only [push_cast] at hg)))
      all_goals first | exact gA | (exact getE_dII (by omega)) | (rw [Int.neg_neg]; omega) | skip
      all_goals first | (refine hK9 _ ?_; clear hK9 K9) | (simp only [push_cast]; done)
      all_goals simp only [push_cast, ↓brB_true, ↓brB_false, ↓reduceIte, zA, zB, zC, zD, zE, zF, zG, zH, zI, reduceCtorEq]
      all_goals repeat' (first | (apply brB_mk <;> (intro hg; (try simp only [push_cast] at hg))) | (refine ⟨_, hM k (by omega), ?_⟩; simp only [push_cast, ↓brB_true, ↓brB_false, ↓reduceIte, zA, zB, zC, zD, zE, zF, zG, zH, zI, reduceCtorEq]) | (refine ⟨_, hSz, ?_⟩; simp only [push_cast, ↓brB_true, ↓brB_false, ↓reduceIte, zA, zB, zC, zD, zE, zF, zG, zH, zI, reduceCtorEq]) | (refine ⟨_, hSz hno, ?_⟩; simp only [push_cast, ↓brB_true, ↓brB_false, ↓reduceIte, zA, zB, zC, zD, zE, zF, zG, zH, zI, reduceCtorEq]) | apply And.intro | (intro hg; (try simp only [push_cast] at hg)))
      all_goals first | exact gA | (exact getE_dII (by omega)) | (rw [Int.neg_neg]; omega) | skip
      all_goals first | (refine hK _ ?_; clear hK K) | (simp only [push_cast]; done)
      refine awp_ret ?_
      (try simp only [AThen, ABlk])
      refine ⟨Or.inl rfl, ?_⟩
      simp only [RetOk, push_cast, ↓brB_true, ↓brB_false, ↓reduceIte, zA, zB, zC, zD, zE, zF, zG, zH, zI, reduceCtorEq]
      rw [Int.neg_neg]
end Go.Proofs.Ytdbecmmeifdafaa

namespace Go.Proofs.Ytdbecmmeifdafaa
open Nat renaming reduceMod → zA, reduceMul → zB, reduceDiv → zC, reduceAdd → zD, reduceSub → zE, reduceEqDiff → zF, reduceBEq → zG, reduceLT → zH, reduceLeDiff → zI
open Go.RowKit
set_option linter.unusedVariables false
set_option linter.unusedSimpArgs false

def decN (b : Int) (c : List Int) (k : Nat) : List Int := (c.take k).map (decB b) ++ c.drop k
theorem decN_len {b : Int} {c : List Int} {k : Nat} (h : k ≤ c.length) : (decN b c k).length = c.length := by simp [decN]; omega
theorem decN_0 (b : Int) (c : List Int) : decN b c 0 = c := by simp [decN]
theorem decN_all (b : Int) (c : List Int) : decN b c c.length = c.map (decB b) := by simp [decN]
theorem drop_gi {c : List Int} {k : Nat} (h : k < c.length) : c.drop k = gi c k :: c.drop (k + 1) := by
  rw [List.drop_eq_getElem_cons h]
  congr 1
  unfold gi
  rw [List.getD_eq_getElem?_getD, List.getElem?_eq_getElem h]
  rfl
theorem decN_gi {b : Int} {c : List Int} {k : Nat} (h : k < c.length) : gi (decN b c k) k = gi c k := by
  have hl : ((c.take k).map (decB b)).length = k := by simp; omega
  unfold decN
  rw [drop_gi h]
  exact gi_app_r (xs := (c.take k).map (decB b)) (ys := gi c k :: c.drop (k + 1)) (k := 0) hl
theorem decN_step {b : Int} {c : List Int} {k : Nat} (h : k < c.length) : (decN b c k).set k (decB b (gi c k)) = decN b c (k + 1) := by
  have hl : ((c.take k).map (decB b)).length = k := by simp; omega
  unfold decN
  rw [List.set_append_right _ _ (by omega), hl, Nat.sub_self, drop_gi h, List.set_cons_zero, List.take_add_one, gi_lt h]
  simp
theorem decN_set {b : Int} {c : List Int} {k : Nat} (h : k < c.length) (hx : gi c k > b) : (decN b c k).set k (-1) = decN b c (k + 1) := by
  rw [← decN_step h]
  unfold decB
  rw [if_pos hx]
theorem set_gi {c : List Int} {k : Nat} (h : k < c.length) : c.set k (gi c k) = c := by
  refine gi_ext (by simp) fun v hv => ?_
  rw [gi_set h]
  split
  · rename_i e; rw [e]
  · rfl
theorem decN_keep {b : Int} {c : List Int} {k : Nat} (h : k < c.length) (hx : ¬ gi c k > b) : decN b c (k + 1) = decN b c k := by
  rw [← decN_step h, show decB b (gi c k) = gi (decN b c k) k from by rw [decN_gi h]; unfold decB; rw [if_neg hx], set_gi (by rw [decN_len (by omega)]; exact h)]
set_option maxRecDepth 20000 in
set_option maxHeartbeats 4000000 in
theorem creditOfI_fn (w : Wt) (ha : w.Ln 1048576) (hw : WSh w) (b : Int) (hbw : boundW w = b) (c : List Int) (hL : Least w b c) : Fn Try.prog tyT 63 [.agg (dWt w)] [.c (DI (c.map (decB b)))] := by
  have hr : ∀ v, (gl w.a.next v).length ≤ 1048576 := fun v => gl_le ha.a.next v
  have hcr : ∀ v, (gl w.cost v).length ≤ 1048576 := fun v => gl_le ha.cost v
  have hcl := hw.cl
  have hnl := hw.nl
  have hn1 := hw.n1
  have hn2 := hw.n2
  have hBd := creditBound_fn w ha hw
  rw [hbw] at hBd
  have hb := hw.bound
  rw [hbw] at hb
  unfold dWt at hBd ⊢
  refine Fn_of (fn := Try.f63) (ts := [2]) Try.func63 (by kernel_rfl) rfl rfl (by rw [Try.ntmps63]; exact Nat.le_of_ble_eq_true rfl) rfl (by simp only [szA, List.mem_cons, List.not_mem_nil, or_false, forall_eq_or_imp, forall_eq, VT.cells, szL]; try decide) ?_
  rw [Try.ntmps63]
  simp only [push_cast, ↓brB_true, ↓brB_false, ↓reduceIte, zA, zB, zC, zD, zE, zF, zG, zH, zI, reduceCtorEq]
  refine awp_seq' fun K hK => ?_
  refine awp_region tyOk tyPos [] rfl ?_
  all_goals simp only [push_cast, ↓brB_true, ↓brB_false, ↓reduceIte, zA, zB, zC, zD, zE, zF, zG, zH, zI, reduceCtorEq]
  all_goals repeat' (first | (apply brB_mk <;> (intro hg; (try simp only [push_cast] at hg))) | (refine ⟨_, hBd, ?_⟩; simp only [push_cast, ↓brB_true, ↓brB_false, ↓reduceIte, zA, zB, zC, zD, zE, zF, zG, zH, zI, reduceCtorEq]) | apply And.intro | (intro hg; (try simp only [push_cast] at hg)))
  all_goals first | exact gA | (exact getE_dII (by omega)) | skip
  all_goals first | (refine hK _ ?_; clear hK K) | (simp only [push_cast]; done)
  refine awp_seq' fun K hK => ?_
  refine awp_region tyOk tyPos [] rfl ?_
  all_goals refine aops_cut 2 fun K9 hK9 => ?_
  all_goals simp only [push_cast, ↓brB_true, ↓brB_false, ↓reduceIte, zA, zB, zC, zD, zE, zF, zG, zH, zI, reduceCtorEq]
  all_goals repeat' (first | (apply brB_mk <;> (intro hg; (try simp only [push_cast] at hg))) | (refine ⟨_, hBd, ?_⟩; simp only [push_cast, ↓brB_true, ↓brB_false, ↓reduceIte, zA, zB, zC, zD, zE, zF, zG, zH, zI, reduceCtorEq]) | apply And.intro | (intro hg; (try simp only [push_cast] at hg)))
  all_goals first | exact gA | (exact getE_dII (by omega)) | skip
  all_goals first | (refine hK9 _ ?_; clear hK9 K9) | (simp only [push_cast]; done)
  all_goals simp only [push_cast, ↓brB_true, ↓brB_false, ↓reduceIte, zA, zB, zC, zD, zE, zF, zG, zH, zI, reduceCtorEq]
  all_goals repeat' (first | (apply brB_mk <;> (intro hg; (try simp only [push_cast] at hg))) | (refine ⟨_, hBd, ?_⟩; simp only [push_cast, ↓brB_true, ↓brB_false, ↓reduceIte, zA, zB, zC, zD, zE, zF, zG, zH, zI, reduceCtorEq]) | apply And.intro | (intro hg; (try simp only [push_cast] at hg)))
  all_goals first | exact gA | (exact getE_dII (by omega)) | skip
  all_goals first | (refine hK _ ?_; clear hK K) | (simp only [push_cast]; done)
  refine awp_seq' fun K hK => ?_
  refine awp_region tyOk tyPos [] rfl ?_
  all_goals simp only [push_cast, ↓brB_true, ↓brB_false, ↓reduceIte, zA, zB, zC, zD, zE, zF, zG, zH, zI, reduceCtorEq]
  all_goals repeat' (first | (apply brB_mk <;> (intro hg; (try simp only [push_cast] at hg))) | (refine ⟨_, hBd, ?_⟩; simp only [push_cast, ↓brB_true, ↓brB_false, ↓reduceIte, zA, zB, zC, zD, zE, zF, zG, zH, zI, reduceCtorEq]) | apply And.intro | (intro hg; (try simp only [push_cast] at hg)))
  all_goals first | exact gA | (exact getE_dII (by omega)) | skip
  all_goals first | (refine hK _ ?_; clear hK K) | (simp only [push_cast]; done)
  refine awp_seq' fun K1 hK1 => ?_
  refine awp_seq' fun K hK => ?_
  refine awp_region tyOk tyPos [] rfl ?_
  all_goals simp only [push_cast, ↓brB_true, ↓brB_false, ↓reduceIte, zA, zB, zC, zD, zE, zF, zG, zH, zI, reduceCtorEq]
  all_goals repeat' (first | (apply brB_mk <;> (intro hg; (try simp only [push_cast] at hg))) | (refine ⟨_, hBd, ?_⟩; simp only [push_cast, ↓brB_true, ↓brB_false, ↓reduceIte, zA, zB, zC, zD, zE, zF, zG, zH, zI, reduceCtorEq]) | apply And.intro | (intro hg; (try simp only [push_cast] at hg)))
  all_goals first | exact gA | (exact getE_dII (by omega)) | skip
  all_goals first | (refine hK _ ?_; clear hK K) | (simp only [push_cast]; done)
  refine awp_block ?_
  refine awp_loopU [5,6,7,8,9,10,11,19,20,21,22,23,24,25,26,27,28,29,30,31,32,33,34,35,36,37,38,39,40,41,42,43,44,45,46,47,48,49,50,51,52,53,54,55,56,57,58,59,60,61,62,63,64,65,66,67,68,69,70,71,72,73,74,75,76,77,78,79,80,81,82,83,84,85,86,87,88,89,90,91,92,93,94,95,96,97,98,99,100,101,102,103,104] [64] (fun (p : List Int × Bool) => [(5, .bool p.2)]) (fun p => []) (fun p => [(64, ⟨.ex, 2, dI p.1, none⟩)]) (fun p => LowC w b p.1 ∧ (p.2 = false → ∀ v, v < w.a.owner.length → stepT w b p.1 v ≤ gi p.1 v)) (fun p => roomC b p.1 + (if p.2 then 1 else 0)) (List.replicate w.cost.length 0, true) ?_ ⟨by rw [hcl]; exact LowC.zero hw hb.1, fun h => by cases h⟩ ?_
  ·
    refine cov_of rfl ?_ ?_ ?_ <;> simp only [covS, covL, push_cast, ↓brB_true, ↓brB_false, ↓reduceIte, zA, zB, zC, zD, zE, zF, zG, zH, zI, reduceCtorEq]
  · rintro ⟨c1, fl⟩ ⟨hlo, hfix⟩ KL0 hL0
    dsimp only at hlo hfix
    have hl1 := hlo.len
    have hml1 : (c1.map (decB b)).length = c1.length := List.length_map ..
    simp only [push_cast, ↓brB_true, ↓brB_false, ↓reduceIte, zA, zB, zC, zD, zE, zF, zG, zH, zI, reduceCtorEq]
    refine awp_seq' fun K2 hK2 => ?_
    refine awp_seq' fun K hK => ?_
    refine awp_region tyOk tyPos [] rfl ?_
    all_goals simp only [push_cast, ↓brB_true, ↓brB_false, ↓reduceIte, zA, zB, zC, zD, zE, zF, zG, zH, zI, reduceCtorEq]
    all_goals repeat' (first | (apply brB_mk <;> (intro hg; (try simp only [push_cast] at hg))) | (refine ⟨_, hBd, ?_⟩; simp only [push_cast, ↓brB_true, ↓brB_false, ↓reduceIte, zA, zB, zC, zD, zE, zF, zG, zH, zI, reduceCtorEq]) | apply And.intro | (intro hg; (try simp only [push_cast] at hg)))
    all_goals first | exact gA | (exact getE_dII (by omega)) | skip
    all_goals first | (refine hK _ ?_; clear hK K) | (simp only [push_cast]; done)
    refine awp_cond rfl (fun hc => ?_) (fun hc => ?_) <;> (try simp only [push_cast] at hc)
    ·
      refine awp_skip ?_
      (try simp only [AThen, ABlk, reduceIte, zF]); refine hK2 _ ?_
      refine awp_block ?_
      refine awp_seq' fun K hK => ?_
      refine awp_region tyOk tyPos [] rfl ?_
      all_goals simp only [push_cast, ↓brB_true, ↓brB_false, ↓reduceIte, zA, zB, zC, zD, zE, zF, zG, zH, zI, reduceCtorEq]
      all_goals repeat' (first | (apply brB_mk <;> (intro hg; (try simp only [push_cast] at hg))) | (refine ⟨_, hBd, ?_⟩; simp only [push_cast, ↓brB_true, ↓brB_false, ↓reduceIte, zA, zB, zC, zD, zE, zF, zG, zH, zI, reduceCtorEq]) | apply And.intro | (intro hg; (try simp only [push_cast] at hg)))
      all_goals first | exact gA | (exact getE_dII (by omega)) | skip
      all_goals first | (refine hK _ ?_; clear hK K) | (simp only [push_cast]; done)
      refine awp_seq' fun K hK => ?_
      refine awp_region tyOk tyPos [] rfl ?_
      all_goals simp only [push_cast, ↓brB_true, ↓brB_false, ↓reduceIte, zA, zB, zC, zD, zE, zF, zG, zH, zI, reduceCtorEq]
      all_goals repeat' (first | (apply brB_mk <;> (intro hg; (try simp only [push_cast] at hg))) | (refine ⟨_, hBd, ?_⟩; simp only [push_cast, ↓brB_true, ↓brB_false, ↓reduceIte, zA, zB, zC, zD, zE, zF, zG, zH, zI, reduceCtorEq]) | apply And.intro | (intro hg; (try simp only [push_cast] at hg)))
      all_goals first | exact gA | (exact getE_dII (by omega)) | skip
      all_goals first | (refine hK _ ?_; clear hK K) | (simp only [push_cast]; done)
      refine awp_block ?_
      refine awp_loopU [5,6,7,8,9,10,11,24,25,26,27,28,29,30,31,32,33,34,35,36,37,38,39,40,41,42,43,44,45,46,47,48,49,50,51,52,53,54,55,56,57,58,59,60,61,62,63,64,65,66,67,68,69,70,71,72,73,74,75,76,77,78,79,80,81,82,83,84,85,86,87,88,89,90,91,92,93,94,95,96,97,98,99,100,101,102,103,104] [64] (fun (q : Nat × List Int × Bool) => [(24, .int .i64 q.1), (5, .bool q.2.2)]) (fun q => []) (fun q => [(64, ⟨.ex, 2, dI q.2.1, none⟩)]) (fun q => q.1 ≤ w.a.owner.length ∧ LowC w b q.2.1 ∧ (q.2.2 = true → roomC b q.2.1 < roomC b c1) ∧ (q.2.2 = false → q.2.1 = c1 ∧ ∀ j, j < q.1 → stepT w b c1 j ≤ gi c1 j)) (fun q => w.a.owner.length - q.1) (0, c1, false) ?_ ⟨by omega, hlo, fun h => (by cases h), fun _ => ⟨rfl, fun j hj => by omega⟩⟩ ?_
      ·
        refine cov_of rfl ?_ ?_ ?_ <;> simp only [covS, covL, push_cast, ↓brB_true, ↓brB_false, ↓reduceIte, zA, zB, zC, zD, zE, zF, zG, zH, zI, reduceCtorEq]
      · rintro ⟨v, c2, fl2⟩ ⟨hv, hlo2, hrm, hsm⟩ KL1 hL1
        dsimp only at hv hlo2 hrm hsm
        have hl2 := hlo2.len
        have hml2 : (c2.map (decB b)).length = c2.length := List.length_map ..
        have hrv := hr v
        have hcv := hcr v
        have hrs := fun (hv : v < w.a.owner.length) (h : gi c2 v < stepT w b c2 v) => roomC_set (b := b) (x := stepT w b c2 v) (by rw [hlo2.len]; exact hv) h (stepT_rg hw hb.1 hv).2
        simp only [push_cast, ↓brB_true, ↓brB_false, ↓reduceIte, zA, zB, zC, zD, zE, zF, zG, zH, zI, reduceCtorEq]
        refine awp_seq' fun K hK => ?_
        refine awp_region tyOk tyPos [] rfl ?_
        all_goals simp only [push_cast, ↓brB_true, ↓brB_false, ↓reduceIte, zA, zB, zC, zD, zE, zF, zG, zH, zI, reduceCtorEq]
        all_goals repeat' (first | (apply brB_mk <;> (intro hg; (try simp only [push_cast] at hg))) | (refine ⟨_, hBd, ?_⟩; simp only [push_cast, ↓brB_true, ↓brB_false, ↓reduceIte, zA, zB, zC, zD, zE, zF, zG, zH, zI, reduceCtorEq]) | apply And.intro | (intro hg; (try simp only [push_cast] at hg)))
        all_goals first | exact gA | (exact getE_dII (by omega)) | skip
        all_goals first | (refine hK _ ?_; clear hK K) | (simp only [push_cast]; done)
        refine awp_seq' fun K3 hK3 => ?_
        refine awp_cond rfl (fun hc => ?_) (fun hc => ?_) <;> (try simp only [push_cast] at hc)
        ·
          refine awp_skip ?_
          (try simp only [AThen, ABlk, reduceIte, zF]); refine hK3 _ ?_
          refine awp_seq' fun K4 hK4 => ?_
          refine awp_block ?_
          refine awp_seq' fun K hK => ?_
          refine awp_region tyOk tyPos [] rfl ?_
          all_goals simp only [push_cast, ↓brB_true, ↓brB_false, ↓reduceIte, zA, zB, zC, zD, zE, zF, zG, zH, zI, reduceCtorEq]
          all_goals repeat' (first | (apply brB_mk <;> (intro hg; (try simp only [push_cast] at hg))) | (refine ⟨_, hBd, ?_⟩; simp only [push_cast, ↓brB_true, ↓brB_false, ↓reduceIte, zA, zB, zC, zD, zE, zF, zG, zH, zI, reduceCtorEq]) | apply And.intro | (intro hg; (try simp only [push_cast] at hg)))
          all_goals first | exact gA | (exact getE_dII (by omega)) | skip
          all_goals first | (refine hK _ ?_; clear hK K) | (simp only [push_cast]; done)
          refine awp_seq' fun K hK => ?_
          refine awp_region tyOk tyPos [] rfl ?_
          all_goals simp only [push_cast, ↓brB_true, ↓brB_false, ↓reduceIte, zA, zB, zC, zD, zE, zF, zG, zH, zI, reduceCtorEq]
          all_goals repeat' (first | (apply brB_mk <;> (intro hg; (try simp only [push_cast] at hg))) | (refine ⟨_, hBd, ?_⟩; simp only [push_cast, ↓brB_true, ↓brB_false, ↓reduceIte, zA, zB, zC, zD, zE, zF, zG, zH, zI, reduceCtorEq]) | apply And.intro | (intro hg; (try simp only [push_cast] at hg)))
          all_goals first | exact gA | (exact getE_dII (by omega)) | skip
          all_goals first | (refine hK _ ?_; clear hK K) | (simp only [push_cast]; done)
          refine awp_seq' fun K5 hK5 => ?_
          refine awp_seq' fun K hK => ?_
          refine awp_region tyOk tyPos [] rfl ?_
          all_goals simp only [push_cast, ↓brB_true, ↓brB_false, ↓reduceIte, zA, zB, zC, zD, zE, zF, zG, zH, zI, reduceCtorEq]
          all_goals repeat' (first | (apply brB_mk <;> (intro hg; (try simp only [push_cast] at hg))) | (refine ⟨_, hBd, ?_⟩; simp only [push_cast, ↓brB_true, ↓brB_false, ↓reduceIte, zA, zB, zC, zD, zE, zF, zG, zH, zI, reduceCtorEq]) | apply And.intro | (intro hg; (try simp only [push_cast] at hg)))
          all_goals first | exact gA | (exact getE_dII (by omega)) | skip
          all_goals first | (refine hK _ ?_; clear hK K) | (simp only [push_cast]; done)
          refine awp_block ?_
          refine awp_loopU [8,9,10,11,31,32,33,34,35,36,37,38,39,40,41,42,43,44,45,46,47,48,49,50,51,52,53,54,55,56,57,58,59,60,61,62,63,64,65,66,67,68,69,70,71,72,73,74,75,76,77,78,79,80,81,82,83,84,85,86,87,88,89] [] (fun (k : Nat) => [(31, .int .i64 k), (8, .int .i64 (bestN (gi w.a.owner v) (need0 w b c2 v) k))]) (fun k => []) (fun k => []) (fun k => k ≤ (gl w.a.next v).length) (fun k => (gl w.a.next v).length - k) 0 ?_ (by omega) ?_
          ·
            rw [show bestN (gi w.a.owner v) (need0 w b c2 v) 0 = -1 from rfl]
            refine cov_of rfl ?_ ?_ ?_ <;> simp only [covS, covL, push_cast, ↓brB_true, ↓brB_false, ↓reduceIte, zA, zB, zC, zD, zE, zF, zG, zH, zI, reduceCtorEq]
          · rintro k hk KL2 hL2
            simp only [push_cast, ↓brB_true, ↓brB_false, ↓reduceIte, zA, zB, zC, zD, zE, zF, zG, zH, zI, reduceCtorEq]
            refine awp_seq' fun K hK => ?_
            refine awp_region tyOk tyPos [] rfl ?_
            all_goals simp only [push_cast, ↓brB_true, ↓brB_false, ↓reduceIte, zA, zB, zC, zD, zE, zF, zG, zH, zI, reduceCtorEq]
            all_goals repeat' (first | (apply brB_mk <;> (intro hg; (try simp only [push_cast] at hg))) | (refine ⟨_, hBd, ?_⟩; simp only [push_cast, ↓brB_true, ↓brB_false, ↓reduceIte, zA, zB, zC, zD, zE, zF, zG, zH, zI, reduceCtorEq]) | apply And.intro | (intro hg; (try simp only [push_cast] at hg)))
            all_goals first | exact gA | (exact getE_dII (by omega)) | skip
            all_goals first | (refine hK _ ?_; clear hK K) | (simp only [push_cast]; done)
            refine awp_seq' fun K6 hK6 => ?_
            refine awp_cond rfl (fun hc => ?_) (fun hc => ?_) <;> (try simp only [push_cast] at hc)
            ·
              refine awp_skip ?_
              (try simp only [AThen, ABlk, reduceIte, zF]); refine hK6 _ ?_
              refine awp_seq' fun K7 hK7 => ?_
              refine awp_block ?_
              obtain ⟨hr1, hr2, hr3⟩ := hw.row v (by omega)
              have hk2 : k < (gl w.a.next v).length := by omega
              have hto := hw.to v (by omega) k hk2
              have hbd := hw.bd v (by omega) k hk2
              have hown := hw.own v (by omega)
              have hcu := hlo2.rg (gi (gl w.a.next v) k).toNat (by omega)
              have hne : need0 w b c2 v k = if gi c2 (gi (gl w.a.next v) k).toNat > b then b + 1 else if gi c2 (gi (gl w.a.next v) k).toNat - gi (gl w.cost v) k > 0 then gi c2 (gi (gl w.a.next v) k).toNat - gi (gl w.cost v) k else 0 := rfl
              refine awp_seq' fun K hK => ?_
              refine awp_region tyOk tyPos [] rfl ?_
              all_goals simp only [push_cast, ↓brB_true, ↓brB_false, ↓reduceIte, zA, zB, zC, zD, zE, zF, zG, zH, zI, reduceCtorEq]
              all_goals repeat' (first | (apply brB_mk <;> (intro hg; (try simp only [push_cast] at hg))) | (refine ⟨_, hBd, ?_⟩; simp only [push_cast, ↓brB_true, ↓brB_false, ↓reduceIte, zA, zB, zC, zD, zE, zF, zG, zH, zI, reduceCtorEq]) | apply And.intro | (intro hg; (try simp only [push_cast] at hg)))
              all_goals first | exact gA | (exact getE_dII (by omega)) | skip
              all_goals first | (refine hK _ ?_; clear hK K) | (simp only [push_cast]; done)
              refine awp_seq' fun K hK => ?_
              refine awp_regionD1 false tyOk tyPos tyMix ?_ rfl ?_
              · kernel_rfl
              intro E hE
              all_goals simp only [push_cast, ↓brB_true, ↓brB_false, ↓reduceIte, zA, zB, zC, zD, zE, zF, zG, zH, zI, reduceCtorEq]
              all_goals repeat' (first | (apply brB_mk <;> (intro hg; (try simp only [push_cast] at hg))) | (refine ⟨_, hBd, ?_⟩; simp only [push_cast, ↓brB_true, ↓brB_false, ↓reduceIte, zA, zB, zC, zD, zE, zF, zG, zH, zI, reduceCtorEq]) | apply And.intro | (intro hg; (try simp only [push_cast] at hg)))
              all_goals first | exact gA | (refine hE _ _ ?_ ?_; kernel_rfl) | (exact getE_dII (by omega)) | skip
              all_goals clear hE E
              all_goals first | (refine hK _ ?_; clear hK K) | (simp only [push_cast]; done)
              refine awp_joinU [11,50,51,52,53,54,55,56,57] [] (fun (u9 : Unit) => [(11, .int .i64 (need0 w b c2 v k))]) (fun u9 => []) (fun u9 => []) (fun u9 => True) ?_ ?_
              ·
                intro K8 hK8
                refine awp_seq' fun K hK => ?_
                refine awp_region tyOk tyPos [] rfl ?_
                all_goals simp only [push_cast, ↓brB_true, ↓brB_false, ↓reduceIte, zA, zB, zC, zD, zE, zF, zG, zH, zI, reduceCtorEq]
                all_goals repeat' (first | (apply brB_mk <;> (intro hg; (try simp only [push_cast] at hg))) | (refine ⟨_, hBd, ?_⟩; simp only [push_cast, ↓brB_true, ↓brB_false, ↓reduceIte, zA, zB, zC, zD, zE, zF, zG, zH, zI, reduceCtorEq]) | apply And.intro | (intro hg; (try simp only [push_cast] at hg)))
                all_goals first | exact gA | (exact getE_dII (by omega)) | skip
                all_goals first | (refine hK _ ?_; clear hK K) | (simp only [push_cast]; done)
                refine awp_cond rfl (fun hc => ?_) (fun hc => ?_) <;> (try simp only [push_cast] at hc)
                ·
                  refine awp_region tyOk tyPos [] rfl ?_
                  all_goals simp only [push_cast, ↓brB_true, ↓brB_false, ↓reduceIte, zA, zB, zC, zD, zE, zF, zG, zH, zI, reduceCtorEq]
                  all_goals repeat' (first | (apply brB_mk <;> (intro hg; (try simp only [push_cast] at hg))) | (refine ⟨_, hBd, ?_⟩; simp only [push_cast, ↓brB_true, ↓brB_false, ↓reduceIte, zA, zB, zC, zD, zE, zF, zG, zH, zI, reduceCtorEq]) | apply And.intro | (intro hg; (try simp only [push_cast] at hg)))
                  all_goals first | exact gA | (exact getE_dII (by omega)) | skip
                  (try simp only [AThen, ABlk, reduceIte, zF])
                  refine hK8 _ ⟨(), trivial, ?_⟩
                  refine cov_of rfl ?_ ?_ ?_ <;> simp only [covS, covL, push_cast, ↓brB_true, ↓brB_false, ↓reduceIte, zA, zB, zC, zD, zE, zF, zG, zH, zI, reduceCtorEq]
                  all_goals (refine congrArg (AV.int .i64) ?_; omega)
                ·
                  refine awp_skip ?_
                  (try simp only [AThen, ABlk, reduceIte, zF])
                  refine hK8 _ ⟨(), trivial, ?_⟩
                  refine cov_of rfl ?_ ?_ ?_ <;> simp only [covS, covL, push_cast, ↓brB_true, ↓brB_false, ↓reduceIte, zA, zB, zC, zD, zE, zF, zG, zH, zI, reduceCtorEq]
                  all_goals (refine congrArg (AV.int .i64) ?_; omega)
              ·
                rintro u9 hj8
                simp only [push_cast, ↓brB_true, ↓brB_false, ↓reduceIte, zA, zB, zC, zD, zE, zF, zG, zH, zI, reduceCtorEq]
                refine awp_seq' fun K hK => ?_
                refine awp_regionN false tyOk tyPos ?_ rfl ?_
                · kernel_rfl
                all_goals simp only [push_cast, ↓brB_true, ↓brB_false, ↓reduceIte, zA, zB, zC, zD, zE, zF, zG, zH, zI, reduceCtorEq]
                all_goals repeat' (first | (apply brB_mk <;> (intro hg; (try simp only [push_cast] at hg))) | (refine ⟨_, hBd, ?_⟩; simp only [push_cast, ↓brB_true, ↓brB_false, ↓reduceIte, zA, zB, zC, zD, zE, zF, zG, zH, zI, reduceCtorEq]) | apply And.intro | (intro hg; (try simp only [push_cast] at hg)))
                all_goals first | exact gA | (exact getE_dII (by omega)) | skip
                all_goals first | (refine hK _ ?_; clear hK K) | (simp only [push_cast]; done)
                all_goals refine awp_cond rfl (fun hc => ?_) (fun hc => ?_)
                all_goals (first | (cases hc; done) | skip)
                all_goals (try simp only [push_cast] at hc)
                all_goals first
                  | (
                      refine awp_skip ?_
                      (try simp only [AThen, ABlk, reduceIte, zF]); refine hK7 _ ?_
                      refine awp_region tyOk tyPos [] rfl ?_
                      all_goals simp only [push_cast, ↓brB_true, ↓brB_false, ↓reduceIte, zA, zB, zC, zD, zE, zF, zG, zH, zI, reduceCtorEq]
                      all_goals repeat' (first | (apply brB_mk <;> (intro hg; (try simp only [push_cast] at hg))) | (refine ⟨_, hBd, ?_⟩; simp only [push_cast, ↓brB_true, ↓brB_false, ↓reduceIte, zA, zB, zC, zD, zE, zF, zG, zH, zI, reduceCtorEq]) | apply And.intro | (intro hg; (try simp only [push_cast] at hg)))
                      all_goals first | exact gA | (exact getE_dII (by omega)) | skip
                      refine hL2 _ ⟨k + 1, by omega, by omega, ?_⟩
                      rw [bestN_s]
                      refine cov_of rfl ?_ ?_ ?_ <;> simp only [covS, covL, push_cast, ↓brB_true, ↓brB_false, ↓reduceIte, zA, zB, zC, zD, zE, zF, zG, zH, zI, reduceCtorEq]
                      all_goals (refine congrArg (AV.int .i64) ?_; omega)
                      done)
                  | (
                      refine awp_region tyOk tyPos [] rfl ?_
                      all_goals simp only [push_cast, ↓brB_true, ↓brB_false, ↓reduceIte, zA, zB, zC, zD, zE, zF, zG, zH, zI, reduceCtorEq]
                      all_goals repeat' (first | (apply brB_mk <;> (intro hg; (try simp only [push_cast] at hg))) | (refine ⟨_, hBd, ?_⟩; simp only [push_cast, ↓brB_true, ↓brB_false, ↓reduceIte, zA, zB, zC, zD, zE, zF, zG, zH, zI, reduceCtorEq]) | apply And.intro | (intro hg; (try simp only [push_cast] at hg)))
                      all_goals first | exact gA | (exact getE_dII (by omega)) | skip
                      (try simp only [AThen, ABlk, reduceIte, zF]); refine hK7 _ ?_
                      refine awp_region tyOk tyPos [] rfl ?_
                      all_goals simp only [push_cast, ↓brB_true, ↓brB_false, ↓reduceIte, zA, zB, zC, zD, zE, zF, zG, zH, zI, reduceCtorEq]
                      all_goals repeat' (first | (apply brB_mk <;> (intro hg; (try simp only [push_cast] at hg))) | (refine ⟨_, hBd, ?_⟩; simp only [push_cast, ↓brB_true, ↓brB_false, ↓reduceIte, zA, zB, zC, zD, zE, zF, zG, zH, zI, reduceCtorEq]) | apply And.intro | (intro hg; (try simp only [push_cast] at hg)))
                      all_goals first | exact gA | (exact getE_dII (by omega)) | skip
                      refine hL2 _ ⟨k + 1, by omega, by omega, ?_⟩
                      rw [bestN_s]
                      refine cov_of rfl ?_ ?_ ?_ <;> simp only [covS, covL, push_cast, ↓brB_true, ↓brB_false, ↓reduceIte, zA, zB, zC, zD, zE, zF, zG, zH, zI, reduceCtorEq]
                      all_goals (refine congrArg (AV.int .i64) ?_; omega)
                      done)
            ·
              refine awp_exit ?_
              have hkk : k = (gl w.a.next v).length := by omega
              subst hkk
              have hng := bestN_ge (o := gi w.a.owner v) (fun j => need0_nn (w := w) (c := c2) (v := v) (j := j) hb.1) (gl w.a.next v).length
              (try simp only [AThen, ABlk, reduceIte, zF]); refine hK5 _ ?_
              refine awp_seq' fun K hK => ?_
              refine awp_region tyOk tyPos [] rfl ?_
              all_goals simp only [push_cast, ↓brB_true, ↓brB_false, ↓reduceIte, zA, zB, zC, zD, zE, zF, zG, zH, zI, reduceCtorEq]
              all_goals repeat' (first | (apply brB_mk <;> (intro hg; (try simp only [push_cast] at hg))) | (refine ⟨_, hBd, ?_⟩; simp only [push_cast, ↓brB_true, ↓brB_false, ↓reduceIte, zA, zB, zC, zD, zE, zF, zG, zH, zI, reduceCtorEq]) | apply And.intro | (intro hg; (try simp only [push_cast] at hg)))
              all_goals first | exact gA | (exact getE_dII (by omega)) | skip
              all_goals first | (refine hK _ ?_; clear hK K) | (simp only [push_cast]; done)
              rw [show (if b + 1 < bestN (gi w.a.owner v) (need0 w b c2 v) (gl w.a.next v).length then b + 1 else bestN (gi w.a.owner v) (need0 w b c2 v) (gl w.a.next v).length) = stepT w b c2 v from rfl]
              refine awp_seq' fun K hK => ?_
              refine awp_region tyOk tyPos [] rfl ?_
              all_goals simp only [push_cast, ↓brB_true, ↓brB_false, ↓reduceIte, zA, zB, zC, zD, zE, zF, zG, zH, zI, reduceCtorEq]
              all_goals repeat' (first | (apply brB_mk <;> (intro hg; (try simp only [push_cast] at hg))) | (refine ⟨_, hBd, ?_⟩; simp only [push_cast, ↓brB_true, ↓brB_false, ↓reduceIte, zA, zB, zC, zD, zE, zF, zG, zH, zI, reduceCtorEq]) | apply And.intro | (intro hg; (try simp only [push_cast] at hg)))
              all_goals first | exact gA | (exact getE_dII (by omega)) | skip
              all_goals first | (refine hK _ ?_; clear hK K) | (simp only [push_cast]; done)
              refine awp_cond rfl (fun hc => ?_) (fun hc => ?_) <;> (try simp only [push_cast] at hc)
              ·
                refine awp_seq' fun K hK => ?_
                refine awp_region tyOk tyPos [] rfl ?_
                all_goals simp only [push_cast, ↓brB_true, ↓brB_false, ↓reduceIte, zA, zB, zC, zD, zE, zF, zG, zH, zI, reduceCtorEq]
                all_goals repeat' (first | (apply brB_mk <;> (intro hg; (try simp only [push_cast] at hg))) | (refine ⟨_, hBd, ?_⟩; simp only [push_cast, ↓brB_true, ↓brB_false, ↓reduceIte, zA, zB, zC, zD, zE, zF, zG, zH, zI, reduceCtorEq]) | apply And.intro | (intro hg; (try simp only [push_cast] at hg)))
                all_goals first | exact gA | (exact getE_dII (by omega)) | skip
                all_goals first | (refine hK _ ?_; clear hK K) | (simp only [push_cast]; done)
                refine awp_region tyOk tyPos [] rfl ?_
                all_goals simp only [push_cast, ↓brB_true, ↓brB_false, ↓reduceIte, zA, zB, zC, zD, zE, zF, zG, zH, zI, reduceCtorEq]
                all_goals repeat' (first | (apply brB_mk <;> (intro hg; (try simp only [push_cast] at hg))) | (refine ⟨_, hBd, ?_⟩; simp only [push_cast, ↓brB_true, ↓brB_false, ↓reduceIte, zA, zB, zC, zD, zE, zF, zG, zH, zI, reduceCtorEq]) | apply And.intro | (intro hg; (try simp only [push_cast] at hg)))
                all_goals first | exact gA | (exact getE_dII (by omega)) | skip
                (try simp only [AThen, ABlk, reduceIte, zF]); refine hK4 _ ?_
                refine awp_region tyOk tyPos [] rfl ?_
                all_goals simp only [push_cast, ↓brB_true, ↓brB_false, ↓reduceIte, zA, zB, zC, zD, zE, zF, zG, zH, zI, reduceCtorEq]
                all_goals repeat' (first | (apply brB_mk <;> (intro hg; (try simp only [push_cast] at hg))) | (refine ⟨_, hBd, ?_⟩; simp only [push_cast, ↓brB_true, ↓brB_false, ↓reduceIte, zA, zB, zC, zD, zE, zF, zG, zH, zI, reduceCtorEq]) | apply And.intro | (intro hg; (try simp only [push_cast] at hg)))
                all_goals first | exact gA | (exact getE_dII (by omega)) | skip
                refine hL1 _ ⟨(v + 1, c2.set v (stepT w b c2 v), true), ⟨by dsimp only; omega, hlo2.set hw hb.1 (by omega), fun _ => (by
                    have h9 := hrs (by omega) (by omega)
                    cases fl2 with
                    | true => have := hrm rfl; dsimp only; omega
                    | false => have := (hsm rfl).1; dsimp only; rw [← this]; exact h9), fun h => (by cases h)⟩, by omega, ?_⟩
                refine cov_of rfl ?_ ?_ ?_ <;> simp only [covS, covL, push_cast, ↓brB_true, ↓brB_false, ↓reduceIte, zA, zB, zC, zD, zE, zF, zG, zH, zI, reduceCtorEq]
              ·
                refine awp_skip ?_
                (try simp only [AThen, ABlk, reduceIte, zF]); refine hK4 _ ?_
                refine awp_region tyOk tyPos [] rfl ?_
                all_goals simp only [push_cast, ↓brB_true, ↓brB_false, ↓reduceIte, zA, zB, zC, zD, zE, zF, zG, zH, zI, reduceCtorEq]
                all_goals repeat' (first | (apply brB_mk <;> (intro hg; (try simp only [push_cast] at hg))) | (refine ⟨_, hBd, ?_⟩; simp only [push_cast, ↓brB_true, ↓brB_false, ↓reduceIte, zA, zB, zC, zD, zE, zF, zG, zH, zI, reduceCtorEq]) | apply And.intro | (intro hg; (try simp only [push_cast] at hg)))
                all_goals first | exact gA | (exact getE_dII (by omega)) | skip
                refine hL1 _ ⟨(v + 1, c2, fl2), ⟨by dsimp only; omega, hlo2, hrm, fun h => ⟨(hsm h).1, fun j hj => (by
                    by_cases hjv : j = v
                    · subst hjv; rw [← (hsm h).1]; omega
                    · exact (hsm h).2 j (by dsimp only at hj; omega))⟩⟩, by omega, ?_⟩
                refine cov_of rfl ?_ ?_ ?_ <;> simp only [covS, covL, push_cast, ↓brB_true, ↓brB_false, ↓reduceIte, zA, zB, zC, zD, zE, zF, zG, zH, zI, reduceCtorEq]
        ·
          refine awp_exit ?_
          refine hL0 _ ⟨(c2, fl2), ⟨hlo2, fun h u hu => by have := hsm h; rw [this.1]; exact this.2 u (by omega)⟩, by
              dsimp only
              have hfl : fl = true := by assumption
              cases fl2 with
              | true => have := hrm rfl; rw [hfl]; simp only [if_true]; omega
              | false => have := (hsm rfl).1; rw [hfl, this]; simp, ?_⟩
          refine cov_of rfl ?_ ?_ ?_ <;> simp only [covS, covL, push_cast, ↓brB_true, ↓brB_false, ↓reduceIte, zA, zB, zC, zD, zE, zF, zG, zH, zI, reduceCtorEq]
    ·
      refine awp_exit ?_
      (try simp only [AThen, ABlk, reduceIte, zF]); refine hK1 _ ?_
      refine awp_seq' fun K9 hK9 => ?_
      have hLs : Least w b c1 := ⟨hlo, hfix (by assumption)⟩
      have hcc := hLs.uniq hL
      refine awp_seq' fun K hK => ?_
      refine awp_region tyOk tyPos [] rfl ?_
      all_goals simp only [push_cast, ↓brB_true, ↓brB_false, ↓reduceIte, zA, zB, zC, zD, zE, zF, zG, zH, zI, reduceCtorEq]
      all_goals repeat' (first | (apply brB_mk <;> (intro hg; (try simp only [push_cast] at hg))) | (refine ⟨_, hBd, ?_⟩; simp only [push_cast, ↓brB_true, ↓brB_false, ↓reduceIte, zA, zB, zC, zD, zE, zF, zG, zH, zI, reduceCtorEq]) | apply And.intro | (intro hg; (try simp only [push_cast] at hg)))
      all_goals first | exact gA | (exact getE_dII (by omega)) | skip
      all_goals first | (refine hK _ ?_; clear hK K) | (simp only [push_cast]; done)
      refine awp_block ?_
      refine awp_loopU [12,60,68,74,82,107,108,109,110,111,112,113,114,115,116,117,118,119] [64] (fun (k : Nat) => [(107, .int .i64 k)]) (fun k => []) (fun k => [(64, ⟨.ex, 2, dI (decN b c1 k), none⟩)]) (fun k => k ≤ c1.length) (fun k => c1.length - k) 0 ?_ (by omega) ?_
      ·
        rw [decN_0]
        refine cov_of rfl ?_ ?_ ?_ <;> simp only [covS, covL, push_cast, ↓brB_true, ↓brB_false, ↓reduceIte, zA, zB, zC, zD, zE, zF, zG, zH, zI, reduceCtorEq]
      · rintro k hk KL3 hL3
        have hdl := decN_len (b := b) hk
        have hdg : k < c1.length → _ := fun h => decN_gi (b := b) (c := c1) h
        simp only [push_cast, ↓brB_true, ↓brB_false, ↓reduceIte, zA, zB, zC, zD, zE, zF, zG, zH, zI, reduceCtorEq]
        refine awp_seq' fun K hK => ?_
        refine awp_region tyOk tyPos [] rfl ?_
        all_goals simp only [push_cast, ↓brB_true, ↓brB_false, ↓reduceIte, zA, zB, zC, zD, zE, zF, zG, zH, zI, reduceCtorEq]
        all_goals repeat' (first | (apply brB_mk <;> (intro hg; (try simp only [push_cast] at hg))) | (refine ⟨_, hBd, ?_⟩; simp only [push_cast, ↓brB_true, ↓brB_false, ↓reduceIte, zA, zB, zC, zD, zE, zF, zG, zH, zI, reduceCtorEq]) | apply And.intro | (intro hg; (try simp only [push_cast] at hg)))
        all_goals first | exact gA | (exact getE_dII (by omega)) | skip
        all_goals first | (refine hK _ ?_; clear hK K) | (simp only [push_cast]; done)
        refine awp_seq' fun K10 hK10 => ?_
        refine awp_cond rfl (fun hc => ?_) (fun hc => ?_) <;> (try simp only [push_cast] at hc)
        ·
          refine awp_skip ?_
          (try simp only [AThen, ABlk, reduceIte, zF]); refine hK10 _ ?_
          refine awp_seq' fun K11 hK11 => ?_
          refine awp_block ?_
          refine awp_seq' fun K hK => ?_
          refine awp_region tyOk tyPos [] rfl ?_
          all_goals simp only [push_cast, ↓brB_true, ↓brB_false, ↓reduceIte, zA, zB, zC, zD, zE, zF, zG, zH, zI, reduceCtorEq]
          all_goals repeat' (first | (apply brB_mk <;> (intro hg; (try simp only [push_cast] at hg))) | (refine ⟨_, hBd, ?_⟩; simp only [push_cast, ↓brB_true, ↓brB_false, ↓reduceIte, zA, zB, zC, zD, zE, zF, zG, zH, zI, reduceCtorEq]) | apply And.intro | (intro hg; (try simp only [push_cast] at hg)))
          all_goals first | exact gA | (exact getE_dII (by omega)) | skip
          all_goals first | (refine hK _ ?_; clear hK K) | (simp only [push_cast]; done)
          refine awp_seq' fun K hK => ?_
          refine awp_region tyOk tyPos [] rfl ?_
          all_goals simp only [push_cast, ↓brB_true, ↓brB_false, ↓reduceIte, zA, zB, zC, zD, zE, zF, zG, zH, zI, reduceCtorEq]
          all_goals repeat' (first | (apply brB_mk <;> (intro hg; (try simp only [push_cast] at hg))) | (refine ⟨_, hBd, ?_⟩; simp only [push_cast, ↓brB_true, ↓brB_false, ↓reduceIte, zA, zB, zC, zD, zE, zF, zG, zH, zI, reduceCtorEq]) | apply And.intro | (intro hg; (try simp only [push_cast] at hg)))
          all_goals first | exact gA | (exact getE_dII (by omega)) | skip
          all_goals first | (refine hK _ ?_; clear hK K) | (simp only [push_cast]; done)
          refine awp_cond rfl (fun hc => ?_) (fun hc => ?_) <;> (try simp only [push_cast] at hc)
          ·
            refine awp_region tyOk tyPos [] rfl ?_
            all_goals simp only [push_cast, ↓brB_true, ↓brB_false, ↓reduceIte, zA, zB, zC, zD, zE, zF, zG, zH, zI, reduceCtorEq]
            all_goals repeat' (first | (apply brB_mk <;> (intro hg; (try simp only [push_cast] at hg))) | (refine ⟨_, hBd, ?_⟩; simp only [push_cast, ↓brB_true, ↓brB_false, ↓reduceIte, zA, zB, zC, zD, zE, zF, zG, zH, zI, reduceCtorEq]) | apply And.intro | (intro hg; (try simp only [push_cast] at hg)))
            all_goals first | exact gA | (exact getE_dII (by omega)) | skip
            (try simp only [AThen, ABlk, reduceIte, zF]); refine hK11 _ ?_
            refine awp_region tyOk tyPos [] rfl ?_
            all_goals simp only [push_cast, ↓brB_true, ↓brB_false, ↓reduceIte, zA, zB, zC, zD, zE, zF, zG, zH, zI, reduceCtorEq]
            all_goals repeat' (first | (apply brB_mk <;> (intro hg; (try simp only [push_cast] at hg))) | (refine ⟨_, hBd, ?_⟩; simp only [push_cast, ↓brB_true, ↓brB_false, ↓reduceIte, zA, zB, zC, zD, zE, zF, zG, zH, zI, reduceCtorEq]) | apply And.intro | (intro hg; (try simp only [push_cast] at hg)))
            all_goals first | exact gA | (exact getE_dII (by omega)) | skip
            refine hL3 _ ⟨k + 1, by omega, by omega, ?_⟩
            rw [decN_set (by omega) (by rw [← hdg (by omega)]; assumption)]
            refine cov_of rfl ?_ ?_ ?_ <;> simp only [covS, covL, push_cast, ↓brB_true, ↓brB_false, ↓reduceIte, zA, zB, zC, zD, zE, zF, zG, zH, zI, reduceCtorEq]
          ·
            refine awp_skip ?_
            (try simp only [AThen, ABlk, reduceIte, zF]); refine hK11 _ ?_
            refine awp_region tyOk tyPos [] rfl ?_
            all_goals simp only [push_cast, ↓brB_true, ↓brB_false, ↓reduceIte, zA, zB, zC, zD, zE, zF, zG, zH, zI, reduceCtorEq]
            all_goals repeat' (first | (apply brB_mk <;> (intro hg; (try simp only [push_cast] at hg))) | (refine ⟨_, hBd, ?_⟩; simp only [push_cast, ↓brB_true, ↓brB_false, ↓reduceIte, zA, zB, zC, zD, zE, zF, zG, zH, zI, reduceCtorEq]) | apply And.intro | (intro hg; (try simp only [push_cast] at hg)))
            all_goals first | exact gA | (exact getE_dII (by omega)) | skip
            refine hL3 _ ⟨k + 1, by omega, by omega, ?_⟩
            rw [decN_keep (by omega) (by rw [← hdg (by omega)]; assumption)]
            refine cov_of rfl ?_ ?_ ?_ <;> simp only [covS, covL, push_cast, ↓brB_true, ↓brB_false, ↓reduceIte, zA, zB, zC, zD, zE, zF, zG, zH, zI, reduceCtorEq]
        ·
          refine awp_exit ?_
          (try simp only [AThen, ABlk, reduceIte, zF]); refine hK9 _ ?_
          refine awp_seq' fun K hK => ?_
          refine awp_region tyOk tyPos [] rfl ?_
          all_goals simp only [push_cast, ↓brB_true, ↓brB_false, ↓reduceIte, zA, zB, zC, zD, zE, zF, zG, zH, zI, reduceCtorEq]
          all_goals repeat' (first | (apply brB_mk <;> (intro hg; (try simp only [push_cast] at hg))) | (refine ⟨_, hBd, ?_⟩; simp only [push_cast, ↓brB_true, ↓brB_false, ↓reduceIte, zA, zB, zC, zD, zE, zF, zG, zH, zI, reduceCtorEq]) | apply And.intro | (intro hg; (try simp only [push_cast] at hg)))
          all_goals first | exact gA | (exact getE_dII (by omega)) | skip
          all_goals first | (refine hK _ ?_; clear hK K) | (simp only [push_cast]; done)
          refine awp_ret ?_
          (try simp only [AThen, ABlk])
          refine ⟨Or.inl rfl, ?_⟩
          simp only [RetOk, push_cast, ↓brB_true, ↓brB_false, ↓reduceIte, zA, zB, zC, zD, zE, zF, zG, zH, zI, reduceCtorEq]
          rw [show k = c1.length from by omega, decN_all, hcc]
          refine ⟨rfl, ?_⟩
          rw [List.length_map, ← hcc]
          omega
end Go.Proofs.Ytdbecmmeifdafaa

namespace Go.Proofs.Ytdbecmmeifdafaa
open Nat renaming reduceMod → zA, reduceMul → zB, reduceDiv → zC, reduceAdd → zD, reduceSub → zE, reduceEqDiff → zF, reduceBEq → zG, reduceLT → zH, reduceLeDiff → zI
open Go.RowKit
set_option linter.unusedVariables false
set_option linter.unusedSimpArgs false

theorem mod_bd {k n : Nat} (h : k < n) : 0 ≤ ((k : Int) + 1).tmod n ∧ ((k : Int) + 1).tmod n < n ∧ (((k : Int) + 1).tmod n).toNat < n ∧ ((((k : Int) + 1).tmod n).toNat = if k + 1 < n then k + 1 else 0) := by
  have e : ((k : Int) + 1).tmod n = (((k + 1) % n : Nat) : Int) := by
    rw [Int.tmod_eq_emod_of_nonneg (by omega)]
    simp
  have h1 : (k + 1) % n < n := Nat.mod_lt _ (by omega)
  rw [e]
  refine ⟨by omega, by omega, by omega, ?_⟩
  rw [Int.toNat_natCast]
  split
  · exact Nat.mod_eq_of_lt (by assumption)
  · rw [show k + 1 = n from by omega, Nat.mod_self]
theorem loop_mod {xs : List Int} {k : Nat} (h : k < xs.length) : gi xs (((k : Int) + 1).tmod xs.length).toNat = nextAt xs (gi xs 0) k := by
  rw [(mod_bd h).2.2.2]
  unfold nextAt
  split <;> rfl
theorem loopV_le {w : Wt} {l : Ls} (h : weightedB w = true) (hl : lassoB w.a l = true) {k : Nat} (hk : k ≤ l.loop.length) : -256000 ≤ psum (fun i => stepC w (gi l.loop i) (nextAt l.loop (gi l.loop 0) i)) k ∧ psum (fun i => stepC w (gi l.loop i) (nextAt l.loop (gi l.loop 0) i)) k ≤ 256000 := by
  have h1 := lassoB_len' hl
  have := psum_le (f := fun i => stepC w (gi l.loop i) (nextAt l.loop (gi l.loop 0) i)) (b := 1000) (n := k) fun i hi => stepC_le h (loop_at hl (by omega)).1
  omega
set_option maxRecDepth 20000 in
set_option maxHeartbeats 4000000 in
theorem loopSum_fn (w : Wt) (l : Ls) (ha : w.Ln 1048576) (hl : l.Ln 1048576) (hw : weightedB w = true) (hlas : lassoB w.a l = true) : Fn Try.prog tyT 69 [.agg (dWt w), .agg (dLs l)] [.c (.int .i64 (loopV w l))] := by
  have hno := ha.a.owner
  have hlp := hl.loop
  have hst := hl.stem
  unfold LnI at hno hlp hst
  have hll := lassoB_len' hlas
  have hC := fun v hv u hu => costOf_fn w ha hw v hv u hu
  unfold dWt at hC ⊢
  unfold dLs
  refine Fn_of (fn := Try.f69) (ts := [4]) Try.func69 (by kernel_rfl) rfl rfl (by rw [Try.ntmps69]; exact Nat.le_of_ble_eq_true rfl) rfl (by simp only [szA, List.mem_cons, List.not_mem_nil, or_false, forall_eq_or_imp, forall_eq, VT.cells, szL]; try decide) ?_
  rw [Try.ntmps69]
  simp only [push_cast, ↓brB_true, ↓brB_false, ↓reduceIte, zA, zB, zC, zD, zE, zF, zG, zH, zI, reduceCtorEq]
  refine awp_seq' fun K hK => ?_
  refine awp_region tyOk tyPos [] rfl ?_
  all_goals simp only [push_cast, ↓brB_true, ↓brB_false, ↓reduceIte, zA, zB, zC, zD, zE, zF, zG, zH, zI, reduceCtorEq]
  all_goals repeat' (first | (apply brB_mk <;> (intro hg; (try simp only [push_cast] at hg))) | (refine ⟨_, hC _ (hat (by omega)).1 _ (by rw [loop_mod (by omega)]; exact (hat (by omega)).2), ?_⟩; simp only [push_cast, ↓brB_true, ↓brB_false, ↓reduceIte, zA, zB, zC, zD, zE, zF, zG, zH, zI, reduceCtorEq]) | apply And.intro | (intro hg; (try simp only [push_cast] at hg)))
  all_goals first | exact gA | (rw [loop_mod (by omega)]; have := hb2 (by omega); omega) | (have := hmd (by omega); omega) | skip
  all_goals first | (refine hK _ ?_; clear hK K) | (simp only [push_cast]; done)
  refine awp_seq' fun K hK => ?_
  refine awp_region tyOk tyPos [] rfl ?_
  all_goals simp only [push_cast, ↓brB_true, ↓brB_false, ↓reduceIte, zA, zB, zC, zD, zE, zF, zG, zH, zI, reduceCtorEq]
  all_goals repeat' (first | (apply brB_mk <;> (intro hg; (try simp only [push_cast] at hg))) | (refine ⟨_, hC _ (hat (by omega)).1 _ (by rw [loop_mod (by omega)]; exact (hat (by omega)).2), ?_⟩; simp only [push_cast, ↓brB_true, ↓brB_false, ↓reduceIte, zA, zB, zC, zD, zE, zF, zG, zH, zI, reduceCtorEq]) | apply And.intro | (intro hg; (try simp only [push_cast] at hg)))
  all_goals first | exact gA | (rw [loop_mod (by omega)]; have := hb2 (by omega); omega) | (have := hmd (by omega); omega) | skip
  all_goals first | (refine hK _ ?_; clear hK K) | (simp only [push_cast]; done)
  refine awp_seq' fun K1 hK1 => ?_
  refine awp_seq' fun K hK => ?_
  refine awp_region tyOk tyPos [] rfl ?_
  all_goals simp only [push_cast, ↓brB_true, ↓brB_false, ↓reduceIte, zA, zB, zC, zD, zE, zF, zG, zH, zI, reduceCtorEq]
  all_goals repeat' (first | (apply brB_mk <;> (intro hg; (try simp only [push_cast] at hg))) | (refine ⟨_, hC _ (hat (by omega)).1 _ (by rw [loop_mod (by omega)]; exact (hat (by omega)).2), ?_⟩; simp only [push_cast, ↓brB_true, ↓brB_false, ↓reduceIte, zA, zB, zC, zD, zE, zF, zG, zH, zI, reduceCtorEq]) | apply And.intro | (intro hg; (try simp only [push_cast] at hg)))
  all_goals first | exact gA | (rw [loop_mod (by omega)]; have := hb2 (by omega); omega) | (have := hmd (by omega); omega) | skip
  all_goals first | (refine hK _ ?_; clear hK K) | (simp only [push_cast]; done)
  refine awp_block ?_
  refine awp_loopU [5,6,7,11,12,13,14,15,16,17,18,19,20,21,22,23,24,25,26,27,28,29,30,31] [] (fun (k : Nat) => [(11, .int .i64 k), (5, .int .i64 (psum (fun i => stepC w (gi l.loop i) (nextAt l.loop (gi l.loop 0) i)) k))]) (fun k => []) (fun k => []) (fun k => k ≤ l.loop.length) (fun k => l.loop.length - k) 0 ?_ (by omega) ?_
  ·
    simp only [psum]
    refine cov_of rfl ?_ ?_ ?_ <;> simp only [covS, covL, push_cast, ↓brB_true, ↓brB_false, ↓reduceIte, zA, zB, zC, zD, zE, zF, zG, zH, zI, reduceCtorEq]
  · rintro k hk KL0 hL0
    have hb1 := loopV_le hw hlas hk
    have hb2 : k < l.loop.length → _ := fun h => loopV_le hw hlas (k := k + 1) (by omega)
    have hat : k < l.loop.length → _ := fun h => loop_at hlas h
    simp only [psum] at hb2
    have hmd : k < l.loop.length → _ := fun h => mod_bd h
    simp only [push_cast, ↓brB_true, ↓brB_false, ↓reduceIte, zA, zB, zC, zD, zE, zF, zG, zH, zI, reduceCtorEq]
    refine awp_seq' fun K hK => ?_
    refine awp_region tyOk tyPos [] rfl ?_
    all_goals simp only [push_cast, ↓brB_true, ↓brB_false, ↓reduceIte, zA, zB, zC, zD, zE, zF, zG, zH, zI, reduceCtorEq]
    all_goals repeat' (first | (apply brB_mk <;> (intro hg; (try simp only [push_cast] at hg))) | (refine ⟨_, hC _ (hat (by omega)).1 _ (by rw [loop_mod (by omega)]; exact (hat (by omega)).2), ?_⟩; simp only [push_cast, ↓brB_true, ↓brB_false, ↓reduceIte, zA, zB, zC, zD, zE, zF, zG, zH, zI, reduceCtorEq]) | apply And.intro | (intro hg; (try simp only [push_cast] at hg)))
    all_goals first | exact gA | (rw [loop_mod (by omega)]; have := hb2 (by omega); omega) | (have := hmd (by omega); omega) | skip
    all_goals first | (refine hK _ ?_; clear hK K) | (simp only [push_cast]; done)
    refine awp_seq' fun K2 hK2 => ?_
    refine awp_cond rfl (fun hc => ?_) (fun hc => ?_) <;> (try simp only [push_cast] at hc)
    ·
      refine awp_skip ?_
      (try simp only [AThen, ABlk, reduceIte, zF]); refine hK2 _ ?_
      refine awp_seq' fun K3 hK3 => ?_
      refine awp_block ?_
      refine awp_seq' fun K hK => ?_
      refine awp_region tyOk tyPos [] rfl ?_
      all_goals simp only [push_cast, ↓brB_true, ↓brB_false, ↓reduceIte, zA, zB, zC, zD, zE, zF, zG, zH, zI, reduceCtorEq]
      all_goals repeat' (first | (apply brB_mk <;> (intro hg; (try simp only [push_cast] at hg))) | (refine ⟨_, hC _ (hat (by omega)).1 _ (by rw [loop_mod (by omega)]; exact (hat (by omega)).2), ?_⟩; simp only [push_cast, ↓brB_true, ↓brB_false, ↓reduceIte, zA, zB, zC, zD, zE, zF, zG, zH, zI, reduceCtorEq]) | apply And.intro | (intro hg; (try simp only [push_cast] at hg)))
      all_goals first | exact gA | (rw [loop_mod (by omega)]; have := hb2 (by omega); omega) | (have := hmd (by omega); omega) | skip
      all_goals first | (refine hK _ ?_; clear hK K) | (simp only [push_cast]; done)
      refine awp_regionD1 false tyOk tyPos tyMix ?_ rfl ?_
      · kernel_rfl
      intro E hE
      all_goals refine lexF_cut 14 (by decide) fun K9 hK9 => ?_
      all_goals simp only [push_cast, ↓brB_true, ↓brB_false, ↓reduceIte, zA, zB, zC, zD, zE, zF, zG, zH, zI, reduceCtorEq]
      all_goals repeat' (first | (apply brB_mk <;> (intro hg; (try simp only [push_cast] at hg))) | (refine ⟨_, hC _ (hat (by omega)).1 _ (by rw [loop_mod (by omega)]; exact (hat (by omega)).2), ?_⟩; simp only [push_cast, ↓brB_true, ↓brB_false, ↓reduceIte, zA, zB, zC, zD, zE, zF, zG, zH, zI, reduceCtorEq]) | apply And.intro | (intro hg; (try simp only [push_cast] at hg)))
      all_goals first | exact gA | (rw [loop_mod (by omega)]; have := hb2 (by omega); omega) | (have := hmd (by omega); omega) | skip
      all_goals first | (refine hK9 _ _ ?_; clear hK9 K9) | (simp only [push_cast]; done)
      all_goals simp only [push_cast, ↓brB_true, ↓brB_false, ↓reduceIte, zA, zB, zC, zD, zE, zF, zG, zH, zI, reduceCtorEq]
      all_goals repeat' (first | (apply brB_mk <;> (intro hg; (try simp only [push_cast] at hg))) | (refine ⟨_, hC _ (hat (by omega)).1 _ (by rw [loop_mod (by omega)]; exact (hat (by omega)).2), ?_⟩; simp only [push_cast, ↓brB_true, ↓brB_false, ↓reduceIte, zA, zB, zC, zD, zE, zF, zG, zH, zI, reduceCtorEq]) | apply And.intro | (intro hg; (try simp only [push_cast] at hg)))
      all_goals first | exact gA | (refine hE _ _ ?_ ?_; kernel_rfl) | (rw [loop_mod (by omega)]; have := hb2 (by omega); omega) | (have := hmd (by omega); omega) | skip
      all_goals clear hE E
      (try simp only [AThen, ABlk, reduceIte, zF]); refine hK3 _ ?_
      refine awp_region tyOk tyPos [] rfl ?_
      all_goals simp only [push_cast, ↓brB_true, ↓brB_false, ↓reduceIte, zA, zB, zC, zD, zE, zF, zG, zH, zI, reduceCtorEq]
      all_goals repeat' (first | (apply brB_mk <;> (intro hg; (try simp only [push_cast] at hg))) | (refine ⟨_, hC _ (hat (by omega)).1 _ (by rw [loop_mod (by omega)]; exact (hat (by omega)).2), ?_⟩; simp only [push_cast, ↓brB_true, ↓brB_false, ↓reduceIte, zA, zB, zC, zD, zE, zF, zG, zH, zI, reduceCtorEq]) | apply And.intro | (intro hg; (try simp only [push_cast] at hg)))
      all_goals first | exact gA | (rw [loop_mod (by omega)]; have := hb2 (by omega); omega) | (have := hmd (by omega); omega) | skip
      refine hL0 _ ⟨k + 1, by omega, by omega, ?_⟩
      rw [loop_mod (by omega)]
      simp only [psum]
      refine cov_of rfl ?_ ?_ ?_ <;> simp only [covS, covL, push_cast, ↓brB_true, ↓brB_false, ↓reduceIte, zA, zB, zC, zD, zE, zF, zG, zH, zI, reduceCtorEq]
    ·
      refine awp_exit ?_
      (try simp only [AThen, ABlk, reduceIte, zF]); refine hK1 _ ?_
      refine awp_seq' fun K hK => ?_
      refine awp_region tyOk tyPos [] rfl ?_
      all_goals simp only [push_cast, ↓brB_true, ↓brB_false, ↓reduceIte, zA, zB, zC, zD, zE, zF, zG, zH, zI, reduceCtorEq]
      all_goals repeat' (first | (apply brB_mk <;> (intro hg; (try simp only [push_cast] at hg))) | (refine ⟨_, hC _ (hat (by omega)).1 _ (by rw [loop_mod (by omega)]; exact (hat (by omega)).2), ?_⟩; simp only [push_cast, ↓brB_true, ↓brB_false, ↓reduceIte, zA, zB, zC, zD, zE, zF, zG, zH, zI, reduceCtorEq]) | apply And.intro | (intro hg; (try simp only [push_cast] at hg)))
      all_goals first | exact gA | (rw [loop_mod (by omega)]; have := hb2 (by omega); omega) | (have := hmd (by omega); omega) | skip
      all_goals first | (refine hK _ ?_; clear hK K) | (simp only [push_cast]; done)
      refine awp_ret ?_
      (try simp only [AThen, ABlk])
      refine ⟨Or.inl rfl, ?_⟩
      simp only [RetOk, push_cast, ↓brB_true, ↓brB_false, ↓reduceIte, zA, zB, zC, zD, zE, zF, zG, zH, zI, reduceCtorEq]
      rw [show k = l.loop.length from by omega]; rfl
end Go.Proofs.Ytdbecmmeifdafaa

namespace Go.Proofs.Ytdbecmmeifdafaa
open Go.RowKit
set_option linter.unusedVariables false
set_option linter.unusedSimpArgs false

structure Fr where
  num : Int
  den : Int
  deriving DecidableEq
def dFr (x : Fr) : List D := [.int .i64 x.num, .int .i64 x.den]
end Go.Proofs.Ytdbecmmeifdafaa
