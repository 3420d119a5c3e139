/- Credits: what is finite is at most the bound, whatever the bound that one counts with: plain. -/
import Derived.Test.YtdbecmmeifdafaaGKzcr
import Derived.Test.YtdbecmmeifdafaaMvzcr
namespace Go.Proofs.Ytdbecmmeifdafaa
open Go.RowKit
set_option linter.unusedVariables false
set_option linter.unusedSimpArgs false

/-- Where an edge goes, and what it costs. -/
def toE (w : Wt) (v j : Nat) : Nat := (gi (gl w.a.next v) j).toNat
def coE (w : Wt) (v j : Nat) : Int := gi (gl w.cost v) j
def Ed (w : Wt) (b : Int) (d : List Int) (v j : Nat) (x : Int) : Prop := gi d (toE w v j) ≤ b ∧ gi d (toE w v j) - coE w v j ≤ x
theorem need0_le {w : Wt} {b : Int} {d : List Int} {v j : Nat} {x : Int} (h0 : 0 ≤ x) (hx : x ≤ b) : need0 w b d v j ≤ x ↔ Ed w b d v j x := by
  unfold need0 Ed toE coE
  split
  · constructor <;> intro h <;> omega
  · split <;> constructor <;> intro h <;> omega
theorem capB_le {b x y : Int} (hx : x ≤ b) : capB b y ≤ x ↔ y ≤ x := by
  unfold capB
  split <;> constructor <;> intro h <;> omega
theorem bestN_le0 {f : Nat → Int} (hf : ∀ j, 0 ≤ f j) {x : Int} : ∀ k, 1 ≤ k → (bestN 0 f k ≤ x ↔ ∃ j, j < k ∧ f j ≤ x)
  | 1, _ => by
    rw [bestN_1]
    exact ⟨fun h => ⟨0, by omega, h⟩, fun ⟨j, hj, h⟩ => by rw [show j = 0 by omega] at h; exact h⟩
  | k + 2, _ => by
    have ih := bestN_le0 (f := f) hf (x := x) (k + 1) (by omega)
    have h0 := bestN_nn (o := 0) hf (k + 1) (by omega)
    have h1 : (∃ j, j < k + 2 ∧ f j ≤ x) ↔ (∃ j, j < k + 1 ∧ f j ≤ x) ∨ f (k + 1) ≤ x := by
      constructor
      · rintro ⟨j, hj, h⟩
        rcases Nat.lt_or_ge j (k + 1) with h2 | h2
        · exact .inl ⟨j, h2, h⟩
        · right; rw [show k + 1 = j by omega]; exact h
      · rintro (⟨j, hj, h⟩ | h)
        · exact ⟨j, by omega, h⟩
        · exact ⟨k + 1, by omega, h⟩
    rw [h1, ← ih, bestN_s 0 f (k + 1)]
    split <;> constructor <;> intro h <;> omega
theorem bestN_le1 {f : Nat → Int} (hf : ∀ j, 0 ≤ f j) {x : Int} : ∀ k, 1 ≤ k → (bestN 1 f k ≤ x ↔ ∀ j, j < k → f j ≤ x)
  | 1, _ => by
    rw [bestN_1]
    exact ⟨fun h j hj => by rw [show j = 0 by omega]; exact h, fun h => h 0 (by omega)⟩
  | k + 2, _ => by
    have ih := bestN_le1 (f := f) hf (x := x) (k + 1) (by omega)
    have h0 := bestN_nn (o := 1) hf (k + 1) (by omega)
    have h1 : (∀ j, j < k + 2 → f j ≤ x) ↔ (∀ j, j < k + 1 → f j ≤ x) ∧ f (k + 1) ≤ x := by
      constructor
      · exact fun h => ⟨fun j hj => h j (by omega), h _ (by omega)⟩
      · rintro ⟨h, h2⟩ j hj
        rcases Nat.lt_or_ge j (k + 1) with h3 | h3
        · exact h j h3
        · rw [show j = k + 1 by omega]; exact h2
    rw [h1, ← ih, bestN_s 1 f (k + 1)]
    split <;> constructor <;> intro h <;> omega
/-- What it is that a vertex's step is at most x. -/
theorem stepT_le {w : Wt} (hw : WSh w) {b : Int} (hb : 0 ≤ b) {d : List Int} {v : Nat} (hv : v < w.a.owner.length) {x : Int} (h0 : 0 ≤ x) (hx : x ≤ b) :
    stepT w b d v ≤ x ↔ (gi w.a.owner v = 0 → ∃ j, j < (gl w.a.next v).length ∧ Ed w b d v j x) ∧ (gi w.a.owner v = 1 → ∀ j, j < (gl w.a.next v).length → Ed w b d v j x) := by
  have hr := (hw.row v hv).2.1
  unfold stepT
  rw [capB_le hx]
  rcases hw.own v hv with e | e <;> rw [e]
  · rw [bestN_le0 (fun j => need0_nn hb) _ hr]
    constructor
    · rintro ⟨j, hj, h⟩
      exact ⟨fun _ => ⟨j, hj, (need0_le h0 hx).1 h⟩, fun h' => absurd h' (by decide)⟩
    · rintro ⟨h, -⟩
      obtain ⟨j, hj, h⟩ := h rfl
      exact ⟨j, hj, (need0_le h0 hx).2 h⟩
  · rw [bestN_le1 (fun j => need0_nn hb) _ hr]
    constructor
    · exact fun h => ⟨fun h' => absurd h' (by decide), fun _ j hj => (need0_le h0 hx).1 (h j hj)⟩
    · exact fun h j hj => (need0_le h0 hx).2 (h.2 rfl j hj)
end Go.Proofs.Ytdbecmmeifdafaa
