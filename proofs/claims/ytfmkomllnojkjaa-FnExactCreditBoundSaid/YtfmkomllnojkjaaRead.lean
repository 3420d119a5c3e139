/- What a slice value reads as: 'RI': numbers, 'RII': rows of numbers; how the readings are kept while memory grows. No program. -/
import Derived.Test.YtfmkomllnojkjaaBase
namespace Go.Proofs.Ytfmkomllnojkjaa
open Go.ChangeShapes Go.WideShapes Go.ChangeAt Go.RowKit

def gi (xs : List Int) (k : Nat) : Int := xs.getD k 0
def gl (rows : List (List Int)) (k : Nat) : List Int := rows.getD k []
def i64 (x : Int) : Prop := -9223372036854775808 ≤ x ∧ x ≤ 9223372036854775807

theorem i64_0 : i64 0 := ⟨by omega, by omega⟩
theorem gi_mem {xs : List Int} {k : Nat} (h : k < xs.length) : gi xs k ∈ xs := by
  unfold gi; rw [List.getD_eq_getElem?_getD, List.getElem?_eq_getElem h]; exact List.getElem_mem h
theorem gi_lt {xs : List Int} {k : Nat} (h : k < xs.length) : xs[k]? = some (gi xs k) := by
  unfold gi; rw [List.getD_eq_getElem?_getD, List.getElem?_eq_getElem h]; rfl
theorem gl_lt {xs : List (List Int)} {k : Nat} (h : k < xs.length) : xs[k]? = some (gl xs k) := by
  unfold gl; rw [List.getD_eq_getElem?_getD, List.getElem?_eq_getElem h]; rfl
theorem gl_mem {xs : List (List Int)} {k : Nat} (h : k < xs.length) : gl xs k ∈ xs := by
  unfold gl; rw [List.getD_eq_getElem?_getD, List.getElem?_eq_getElem h]; exact List.getElem_mem h

/-- The slice value '.slice A n c' reads as the numbers xs, in memory below the world's end. -/
structure RI (w : World) (A : Option Addr) (n c : Nat) (xs : List Int) : Prop where
  len : xs.length = n
  cap : n ≤ c
  max : c ≤ 9223372036854775807
  rng : ∀ x ∈ xs, i64 x
  mem : 0 < c → ∃ b o, A = some ⟨b, o, none⟩ ∧ b < w.heap.size ∧ ∀ k, k < n → w.cell? ⟨b, o + k, none⟩ = some (.int .i64 (gi xs k))

/-- .. as rows of numbers. -/
structure RII (w : World) (A : Option Addr) (n c : Nat) (rows : List (List Int)) : Prop where
  len : rows.length = n
  cap : n ≤ c
  max : c ≤ 9223372036854775807
  mem : 0 < c → ∃ b o, A = some ⟨b, o, none⟩ ∧ b < w.heap.size ∧ ∀ k, k < n → ∃ A' n' c', w.cell? ⟨b, o + k, none⟩ = some (.slice A' n' c') ∧ RI w A' n' c' (gl rows k)

section
variable {w w' : World} {A : Option Addr} {n c : Nat} {xs : List Int} {rows : List (List Int)}

theorem RI.nil_ : RI w none 0 0 [] := ⟨rfl, by omega, by omega, by simp, fun h => by omega⟩
theorem RII.nil_ : RII w none 0 0 [] := ⟨rfl, by omega, by omega, fun h => by omega⟩
theorem RI.keep (h : RI w A n c xs) (hz : w.heap.size ≤ w'.heap.size) (hk : ∀ b o, b < w.heap.size → w'.cell? ⟨b, o, none⟩ = w.cell? ⟨b, o, none⟩) : RI w' A n c xs :=
  ⟨h.len, h.cap, h.max, h.rng, fun hn => by
    obtain ⟨b, o, e, hb, hc⟩ := h.mem hn
    exact ⟨b, o, e, by omega, fun k hk' => (hk _ _ hb).trans (hc k hk')⟩⟩
theorem RII.keep (h : RII w A n c rows) (hz : w.heap.size ≤ w'.heap.size) (hk : ∀ b o, b < w.heap.size → w'.cell? ⟨b, o, none⟩ = w.cell? ⟨b, o, none⟩) : RII w' A n c rows :=
  ⟨h.len, h.cap, h.max, fun hn => by
    obtain ⟨b, o, e, hb, hc⟩ := h.mem hn
    refine ⟨b, o, e, by omega, fun k hk' => ?_⟩
    obtain ⟨A', n', c', h1, h2⟩ := hc k hk'
    exact ⟨A', n', c', (hk _ _ hb).trans h1, h2.keep hz hk⟩⟩
theorem RI.below (h : RI w A n c xs) (hb : Below w.heap.size w w') : RI w' A n c xs := h.keep hb.size fun b o hlt => hb.cell (p := ⟨b, o, none⟩) hlt
theorem RII.below (h : RII w A n c rows) (hb : Below w.heap.size w w') : RII w' A n c rows := h.keep hb.size fun b o hlt => hb.cell (p := ⟨b, o, none⟩) hlt
/-- An element's cell, and the slice's address, where there is an element. -/
theorem RI.at_ (h : RI w A n c xs) {k : Nat} (hk : k < n) : ∃ b o, A = some ⟨b, o, none⟩ ∧ b < w.heap.size ∧ (∀ k, k < n → w.cell? ⟨b, o + k, none⟩ = some (.int .i64 (gi xs k))) ∧ w.cell? ⟨b, o + k, none⟩ = some (.int .i64 (gi xs k)) := by
  obtain ⟨b, o, e, hb, hc⟩ := h.mem (by have := h.cap; omega)
  exact ⟨b, o, e, hb, hc, hc k hk⟩
theorem RII.at_ (h : RII w A n c rows) {k : Nat} (hk : k < n) : ∃ b o A' n' c', A = some ⟨b, o, none⟩ ∧ b < w.heap.size ∧ w.cell? ⟨b, o + k, none⟩ = some (.slice A' n' c') ∧ RI w A' n' c' (gl rows k) := by
  obtain ⟨b, o, e, hb, hc⟩ := h.mem (by have := h.cap; omega)
  obtain ⟨A', n', c', h1, h2⟩ := hc k hk
  exact ⟨b, o, A', n', c', e, hb, h1, h2⟩
theorem RI.i64_at (h : RI w A n c xs) {k : Nat} (hk : k < n) : -9223372036854775808 ≤ gi xs k ∧ gi xs k ≤ 9223372036854775807 := h.rng _ (gi_mem (by rw [h.len]; exact hk))
theorem RI.le (h : RI w A n c xs) : n ≤ 9223372036854775807 := Nat.le_trans h.cap h.max
theorem RII.le (h : RII w A n c rows) : n ≤ 9223372036854775807 := Nat.le_trans h.cap h.max
end

def ints (xs : List Int) : List Value := xs.map (Value.int .i64)
theorem ints_len (xs : List Int) : (ints xs).length = xs.length := by unfold ints; simp
theorem ints_at {xs : List Int} {k : Nat} (h : k < xs.length) : (ints xs)[k]? = some (.int .i64 (gi xs k)) := by
  unfold ints; rw [List.getElem?_map, gi_lt h]; rfl

/-- The slice value '.slice A n c' holds the numbers xs in a block of its own, from block lo on. -/
structure OI (w : World) (lo : Nat) (A : Option Addr) (n c : Nat) (xs : List Int) : Prop where
  own : w.ownsRow lo 2 1 (.slice A n c) n (ints xs)
  rng : ∀ x ∈ xs, i64 x

theorem OI.len {w : World} {lo n c : Nat} {A : Option Addr} {xs : List Int} (h : OI w lo A n c xs) : xs.length = n := by
  have := h.own.1; rw [ints_len] at this; omega
theorem OI.ri {w : World} {lo n c : Nat} {A : Option Addr} {xs : List Int} (h : OI w lo A n c xs) : RI w A n c xs := by
  have hl := h.len
  rcases h.own.2 with ⟨hv, h0⟩ | ⟨g, cap, cur, hv, hb, hg, hnc, hcm, hcs, htake⟩
  · simp only [Value.slice.injEq] at hv
    obtain ⟨rfl, h1, h2⟩ := hv
    exact ⟨hl, by omega, by omega, h.rng, fun hn => by omega⟩
  · simp only [Value.slice.injEq, true_and] at hv
    obtain ⟨rfl, rfl⟩ := hv
    have hlt : g < w.heap.size := (Array.getElem?_eq_some_iff.1 hg).1
    unfold maxLen at hcm
    refine ⟨hl, hnc, by omega, h.rng, fun hn => ⟨g, 0, rfl, hlt, fun k hk => ?_⟩⟩
    have := h.own.cellAt k (by omega)
    rw [Nat.zero_add, this, ints_at (by omega)]


/-- Of the old blocks, those of P are as they were. -/
structure Same (P : Nat → Prop) (w w' : World) : Prop where
  size : w.heap.size ≤ w'.heap.size
  block : ∀ b, b < w.heap.size → P b → w'.heap[b]? = w.heap[b]?
theorem Same.of_below {B : Nat} {w w' : World} (h : Below B w w') : Same (fun b => b < B) w w' := ⟨h.size, fun b _ hb => h.block b hb⟩
theorem Same.of_grown {row : Option Nat} {w w' : World} (h : w.grownBy w' row) : Same (fun b => some b ≠ row) w w' := ⟨h.size, fun b hb hP => h.block b hb hP⟩

theorem OI.same {P : Nat → Prop} {w w' : World} {lo n c : Nat} {A : Option Addr} {xs : List Int} (h : OI w lo A n c xs) (hs : Same P w w') (hP : ∀ b, (Value.slice A n c).ownBlock = some b → P b) : OI w' lo A n c xs := by
  refine ⟨⟨h.own.1, ?_⟩, h.rng⟩
  rcases h.own.2 with hn | ⟨g, cap, cur, hv, hb, hgg, rest⟩
  · exact .inl hn
  · refine .inr ⟨g, cap, cur, hv, hb, ?_, rest⟩
    rw [hs.block g (Array.getElem?_eq_some_iff.1 hgg).1 (hP g (by rw [hv]; rfl))]
    exact hgg
theorem OI.lt {w : World} {lo n c : Nat} {A : Option Addr} {xs : List Int} (h : OI w lo A n c xs) : ∀ b, (Value.slice A n c).ownBlock = some b → lo ≤ b ∧ b < w.heap.size := h.own.lt
theorem OI.below {w w' : World} {lo n c : Nat} {A : Option Addr} {xs : List Int} (h : OI w lo A n c xs) (hb : Below w.heap.size w w') : OI w' lo A n c xs :=
  h.same (Same.of_below hb) fun b e => (h.lt b e).2
theorem OI.mono {w : World} {lo lo' n c : Nat} {A : Option Addr} {xs : List Int} (h : OI w lo A n c xs) (hl : lo' ≤ lo) : OI w lo' A n c xs := by
  refine ⟨⟨h.own.1, ?_⟩, h.rng⟩
  rcases h.own.2 with hn | ⟨g, cap, cur, hv, hb, rest⟩
  · exact .inl hn
  · exact .inr ⟨g, cap, cur, hv, Nat.le_trans hl hb, rest⟩

def bks (vals : List Value) : List Nat := vals.filterMap Value.ownBlock

/-- The slice values vals hold the rows, each in a block of its own, from block lo on. -/
structure RowsOwn (w : World) (lo : Nat) (vals : List Value) (rows : List (List Int)) : Prop where
  len : vals.length = rows.length
  row : ∀ k, k < rows.length → ∃ A n c, vals[k]? = some (.slice A n c) ∧ OI w lo A n c (gl rows k)
  sep : (bks vals).Nodup

theorem RowsOwn.nil_ (w : World) (lo : Nat) : RowsOwn w lo [] [] := ⟨rfl, fun k hk => by simp at hk, by simp [bks]⟩
theorem gl_append_left {xs ys : List (List Int)} {k : Nat} (h : k < xs.length) : gl (xs ++ ys) k = gl xs k := by
  unfold gl; rw [List.getD_eq_getElem?_getD, List.getElem?_append_left h]; rfl
theorem gl_append_at {xs : List (List Int)} {y : List Int} : gl (xs ++ [y]) xs.length = y := by
  unfold gl; rw [List.getD_eq_getElem?_getD, List.getElem?_append_right (Nat.le_refl _)]; simp
theorem RowsOwn.snoc {w : World} {lo n c : Nat} {vals : List Value} {rows : List (List Int)} {A : Option Addr} {xs : List Int} (h : RowsOwn w lo vals rows) (ho : OI w lo A n c xs)
    (hne : ∀ b, (Value.slice A n c).ownBlock = some b → b ∉ bks vals) : RowsOwn w lo (vals ++ [.slice A n c]) (rows ++ [xs]) := by
  refine ⟨by simp [h.len], fun k hk => ?_, ?_⟩
  · simp at hk
    by_cases hlt : k < rows.length
    · obtain ⟨A', n', c', h1, h2⟩ := h.row k hlt
      exact ⟨A', n', c', by rw [List.getElem?_append_left (by rw [h.len]; exact hlt)]; exact h1, by rw [gl_append_left hlt]; exact h2⟩
    · have hk' : k = rows.length := by omega
      subst hk'
      exact ⟨A, n, c, by rw [List.getElem?_append_right (by rw [h.len]; exact Nat.le_refl _)]; simp [h.len], by rw [gl_append_at]; exact ho⟩
  · unfold bks
    rw [List.filterMap_append]
    rw [List.nodup_append]
    refine ⟨h.sep, ?_, ?_⟩
    · rcases hb : (Value.slice A n c).ownBlock with _ | b <;> simp [hb]
    · intro a ha b hb
      rcases he : (Value.slice A n c).ownBlock with _ | b'
      · simp [he] at hb
      · simp [he] at hb
        subst hb
        rintro rfl
        exact hne _ he ha
theorem RowsOwn.blk {w : World} {lo : Nat} {vals : List Value} {rows : List (List Int)} (h : RowsOwn w lo vals rows) : ∀ b ∈ bks vals, lo ≤ b ∧ b < w.heap.size := by
  intro b hb
  obtain ⟨v, hv, he⟩ := List.mem_filterMap.1 hb
  obtain ⟨k, hk⟩ := List.getElem?_of_mem hv
  have hlt : k < vals.length := by
    rcases Nat.lt_or_ge k vals.length with h' | h'
    · exact h'
    · rw [List.getElem?_eq_none h'] at hk; cases hk
  obtain ⟨A, n, c, h1, h2⟩ := h.row k (by rw [← h.len]; exact hlt)
  rw [hk] at h1
  cases h1
  exact h2.lt b he
theorem mem_bks {vals : List Value} {k b : Nat} {v : Value} (h : vals[k]? = some v) (he : v.ownBlock = some b) : b ∈ bks vals :=
  List.mem_filterMap.2 ⟨v, List.mem_of_getElem? h, he⟩
theorem RowsOwn.same {P : Nat → Prop} {w w' : World} {lo : Nat} {vals : List Value} {rows : List (List Int)} (h : RowsOwn w lo vals rows) (hs : Same P w w') (hP : ∀ b ∈ bks vals, P b) : RowsOwn w' lo vals rows :=
  ⟨h.len, fun k hk => by
    obtain ⟨A, n, c, h1, h2⟩ := h.row k hk
    exact ⟨A, n, c, h1, h2.same hs fun b e => hP b (mem_bks h1 e)⟩, h.sep⟩
theorem RowsOwn.below {w w' : World} {lo : Nat} {vals : List Value} {rows : List (List Int)} (h : RowsOwn w lo vals rows) (hb : Below w.heap.size w w') : RowsOwn w' lo vals rows :=
  h.same (Same.of_below hb) fun b hm => (h.blk b hm).2
theorem RowsOwn.mono {w : World} {lo lo' : Nat} {vals : List Value} {rows : List (List Int)} (h : RowsOwn w lo vals rows) (hl : lo' ≤ lo) : RowsOwn w lo' vals rows :=
  ⟨h.len, fun k hk => by
    obtain ⟨A, n, c, h1, h2⟩ := h.row k hk
    exact ⟨A, n, c, h1, h2.mono hl⟩, h.sep⟩

/-- The slice value '.slice A n c' holds the slices vals in a block of its own, and these the rows. -/
structure OII (w : World) (lo : Nat) (A : Option Addr) (n c : Nat) (vals : List Value) (rows : List (List Int)) : Prop where
  own : w.ownsRow lo 22 1 (.slice A n c) n vals
  rows : RowsOwn w lo vals rows

theorem OII.len {w : World} {lo n c : Nat} {A : Option Addr} {vals : List Value} {rows : List (List Int)} (h : OII w lo A n c vals rows) : rows.length = n := by
  have h1 := h.own.1
  have h2 := h.rows.len
  omega
theorem OII.rii {w : World} {lo n c : Nat} {A : Option Addr} {vals : List Value} {rows : List (List Int)} (h : OII w lo A n c vals rows) : RII w A n c rows := by
  have hl := h.len
  have hv1 := h.rows.len
  rcases h.own.2 with ⟨hv, h0⟩ | ⟨g, cap, cur, hv, hb, hg, hnc, hcm, hcs, htake⟩
  · simp only [Value.slice.injEq] at hv
    obtain ⟨rfl, h1, h2⟩ := hv
    exact ⟨hl, by omega, by omega, fun hn => by omega⟩
  · simp only [Value.slice.injEq, true_and] at hv
    obtain ⟨rfl, rfl⟩ := hv
    have hlt : g < w.heap.size := (Array.getElem?_eq_some_iff.1 hg).1
    unfold maxLen at hcm
    refine ⟨hl, hnc, by omega, fun hn => ⟨g, 0, rfl, hlt, fun k hk => ?_⟩⟩
    obtain ⟨A', n', c', h1, h2⟩ := h.rows.row k (by omega)
    refine ⟨A', n', c', ?_, h2.ri⟩
    have := h.own.cellAt k (by omega)
    rw [Nat.zero_add, this, h1]
theorem ownsRow_same {P : Nat → Prop} {w w' : World} {lo n : Nat} {e : TypeId} {v : Value} {xs : List Value} (h : w.ownsRow lo e 1 v n xs) (hs : Same P w w') (hP : ∀ b, v.ownBlock = some b → P b) : w'.ownsRow lo e 1 v n xs := by
  refine ⟨h.1, ?_⟩
  rcases h.2 with hn | ⟨g, cap, cur, hv, hb, hgg, rest⟩
  · exact .inl hn
  · refine .inr ⟨g, cap, cur, hv, hb, ?_, rest⟩
    rw [hs.block g (Array.getElem?_eq_some_iff.1 hgg).1 (hP g (by rw [hv]; rfl))]
    exact hgg
theorem OII.below {w w' : World} {lo n c : Nat} {A : Option Addr} {vals : List Value} {rows : List (List Int)} (h : OII w lo A n c vals rows) (hb : Below w.heap.size w w') : OII w' lo A n c vals rows :=
  ⟨ownsRow_same h.own (Same.of_below hb) fun b e => (h.own.lt b e).2, h.rows.below hb⟩

theorem take_set_snoc {xs : List Value} {k : Nat} {u : Value} (h : k < xs.length) : (xs.set k u).take (k + 1) = xs.take k ++ [u] := by
  apply List.ext_getElem?
  intro i
  rw [List.getElem?_take]
  by_cases h1 : i < k + 1
  · rw [if_pos h1, List.getElem?_set]
    by_cases h2 : k = i
    · subst h2
      rw [if_pos rfl, if_pos h, List.getElem?_append_right (by simp; omega)]
      simp [Nat.min_eq_left (Nat.le_of_lt h)]
    · rw [if_neg h2, List.getElem?_append_left (by simp; omega), List.getElem?_take, if_pos (by omega)]
  · rw [if_neg h1, List.getElem?_eq_none (by simp; omega)]
theorem ints_take_succ {xs : List Int} {k : Nat} (h : k < xs.length) : ints (xs.take (k + 1)) = ints (xs.take k) ++ [.int .i64 (gi xs k)] := by
  unfold ints
  rw [List.take_add_one, List.map_append, gi_lt h]
  rfl
theorem take_all {xs : List Int} {n : Nat} (h : xs.length ≤ n) : xs.take n = xs := List.take_of_length_le h

/-- From block lo on, what was there is as it was. -/
def From (lo : Nat) (w w' : World) : Prop := Same (fun b => lo ≤ b) w w'
theorem From.refl (lo : Nat) (w : World) : From lo w w := ⟨Nat.le_refl _, fun _ _ _ => rfl⟩
theorem From.trans {lo : Nat} {a b c : World} (h : From lo a b) (k : From lo b c) : From lo a c :=
  ⟨Nat.le_trans h.size k.size, fun i hi hl => (k.block i (Nat.lt_of_lt_of_le hi h.size) hl).trans (h.block i hi hl)⟩
theorem From.of_below {lo : Nat} {w w' : World} (h : Below w.heap.size w w') : From lo w w' := ⟨h.size, fun b hb _ => h.block b hb⟩
theorem From.set {lo : Nat} {a w : World} (h : From lo a w) {p : Addr} (hp : p.block < lo) (u : Value) : From lo a (w.setCell p u) :=
  h.trans ⟨by simp [World.setCell], fun b _ hb => Below.heap_setCell w p u b (by omega)⟩
theorem From.alloc {lo : Nat} {a w : World} (h : From lo a w) (o : Obj) : From lo a (w.alloc o) :=
  h.trans ⟨by simp, fun b hb _ => Below.heap_alloc w o b hb⟩
theorem From.drew {lo : Nat} {a w : World} (h : From lo a w) : From lo a w.drew := ⟨h.size, h.block⟩
theorem From.drewN {lo : Nat} {a w : World} (h : From lo a w) (n : Nat) : From lo a (w.drewN n) := ⟨h.size, h.block⟩
theorem OI.from_ {w w' : World} {lo n c : Nat} {A : Option Addr} {xs : List Int} (h : OI w lo A n c xs) (hf : From lo w w') : OI w' lo A n c xs := h.same hf fun b e => (h.lt b e).1
theorem OII.from_ {w w' : World} {lo n c : Nat} {A : Option Addr} {vals : List Value} {rows : List (List Int)} (h : OII w lo A n c vals rows) (hf : From lo w w') : OII w' lo A n c vals rows :=
  ⟨ownsRow_same h.own hf fun b e => (h.own.lt b e).1, h.rows.same hf fun b hb => (h.rows.blk b hb).1⟩
theorem OII.mono {w : World} {lo lo' n c : Nat} {A : Option Addr} {vals : List Value} {rows : List (List Int)} (h : OII w lo A n c vals rows) (hl : lo' ≤ lo) : OII w lo' A n c vals rows := by
  refine ⟨⟨h.own.1, ?_⟩, h.rows.mono hl⟩
  rcases h.own.2 with hn | ⟨g, cap, cur, hv, hb, rest⟩
  · exact .inl hn
  · exact .inr ⟨g, cap, cur, hv, Nat.le_trans hl hb, rest⟩

/-- Only draws: memory is as it was. -/
def Qt (w w' : World) : Prop := ∃ n, w' = w.drewN n
theorem Qt.refl (w : World) : Qt w w := ⟨0, rfl⟩
theorem Qt.drewN {a w : World} (h : Qt a w) (n : Nat) : Qt a (w.drewN n) := by
  obtain ⟨m, rfl⟩ := h
  exact ⟨m + n, World.drewN_drewN _ _ _⟩
theorem Qt.trans {a b c : World} (h : Qt a b) (k : Qt b c) : Qt a c := by
  obtain ⟨n, rfl⟩ := k
  exact h.drewN n
theorem Qt.below {a w : World} (h : Qt a w) (B : Nat) : Below B a w := by
  obtain ⟨n, rfl⟩ := h
  exact below_drewN (Below.refl _ _) n
theorem RI.qt {w w' : World} {A : Option Addr} {n c : Nat} {xs : List Int} (h : RI w A n c xs) (hq : Qt w w') : RI w' A n c xs := h.below (hq.below _)
theorem RII.qt {w w' : World} {A : Option Addr} {n c : Nat} {rows : List (List Int)} (h : RII w A n c rows) (hq : Qt w w') : RII w' A n c rows := h.below (hq.below _)
theorem quiet_qt {P : Program} {f : FuncId} {args : Array Value} {w : World} {n : Nat} {v : Value}
    (h : Calls P f args (w.drewN n) fun e w' => e = .returned v ∧ Qt (w.drewN n) w') : Calls P f args (w.drewN n) fun e w' => e = .returned v ∧ ∃ m, w' = w.drewN m :=
  h.mono fun _ _ ⟨he, m, hm⟩ => ⟨he, n + m, by rw [hm, World.drewN_drewN]⟩
/-! ### plain facts on worlds -/
theorem blk_alloc {w : World} {g : Nat} {o x : Obj} (h : w.heap[g]? = some x) : (w.alloc o).heap[g]? = some x := by
  have hlt : g < w.heap.size := (Array.getElem?_eq_some_iff.1 h).1
  rw [Below.heap_alloc w o g hlt]; exact h
theorem blk_set {w : World} {g k : Nat} {cs : Array Value} {e : TypeId} (u : Value) (h : w.heap[g]? = some (.cells cs e (0, 0))) :
    (w.setCell ⟨g, k, none⟩ u).heap[g]? = some (.cells (cs.setIfInBounds k u) e (0, 0)) := by
  simp [World.setCell, Array.getElem?_modify, h]
theorem blk_lt {w : World} {g : Nat} {x : Obj} (h : w.heap[g]? = some x) : g < w.heap.size := (Array.getElem?_eq_some_iff.1 h).1
theorem blk_cell {w : World} {g k : Nat} {cs : Array Value} {e : TypeId} (h : w.heap[g]? = some (.cells cs e (0, 0))) (hk : k < cs.size) : ∃ u, w.cell? ⟨g, k, none⟩ = some u :=
  ⟨cs[k], by rw [cell_of_row w g k cs e (0, 0) h, Array.getElem?_eq_getElem hk]⟩
theorem blk_frozen {w : World} {g k : Nat} {cs : Array Value} {e : TypeId} (h : w.heap[g]? = some (.cells cs e (0, 0))) : w.frozen? ⟨g, k, none⟩ = false := frozen_of_row w g k cs e h
theorem same_set (w : World) (g k : Nat) (u : Value) : Same (fun b => b ≠ g) w (w.setCell ⟨g, k, none⟩ u) :=
  ⟨by simp [World.setCell], fun b _ hb => Below.heap_setCell w _ u b hb⟩
theorem below_alloc (w : World) (o : Obj) : Below w.heap.size w (w.alloc o) := (Below.refl _ _).alloc (Nat.le_refl _) o
theorem oi_new (w : World) (xs : List Int) (hm : xs.length ≤ 9223372036854775807) (hr : ∀ x ∈ xs, i64 x) :
    OI (w.alloc (.cells (ints xs).toArray 2)) w.heap.size (some ⟨w.heap.size, 0, none⟩) xs.length xs.length xs := by
  refine ⟨?_, hr⟩
  have := World.ownsRow_lit (base := w.heap.size) (e := 2) (size := 1) w (ints xs).toArray xs.length (Nat.le_refl _) (by unfold maxLen; omega) (by simp [ints_len])
  simpa using this
theorem gl_take {rows : List (List Int)} {k j : Nat} (h : j < k) : gl (rows.take k) j = gl rows j := by
  unfold gl; rw [List.getD_eq_getElem?_getD, List.getD_eq_getElem?_getD, List.getElem?_take, if_pos h]
theorem rows_take_succ {rows : List (List Int)} {k : Nat} (h : k < rows.length) : rows.take (k + 1) = rows.take k ++ [gl rows k] := by
  rw [List.take_add_one, gl_lt h]; rfl

end Go.Proofs.Ytfmkomllnojkjaa
