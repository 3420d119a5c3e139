/- the laws' helpers of Parity -/
import Derived.Test.YtfipgnbpkbnalaaGDzUD
namespace Go.Proofs.Ytfipgnbpkbnalaa
open Go.RowKit
set_option linter.unusedVariables false
set_option linter.unusedSimpArgs false

structure Pa where
  a : Ar
  prio : List Int
  deriving DecidableEq
def Pa.tot (x : Pa) : Nat := x.a.owner.length + totII x.a.next + x.prio.length
/-- No length exceeds B. -/
structure Pa.Ln (B : Nat) (x : Pa) : Prop where
  a : x.a.Ln B
  prio : LnI B x.prio
theorem Pa.ln_of {B : Nat} {x : Pa} (h : x.tot ≤ B) : x.Ln B := by
  unfold Pa.tot at h
  exact ⟨Ar.ln_of (by unfold Ar.tot; omega), LnI_of (by omega)⟩
def Pa.cnt (x : Pa) : Nat := x.a.owner.length + sumL x.a.next + x.prio.length
theorem Pa.ln_mono {B C : Nat} (hB : B ≤ C) {x : Pa} (h : x.Ln B) : x.Ln C := ⟨Ar.ln_mono hB h.a, LnI.mono hB h.prio⟩
theorem Pa.cnt_le {x : Pa} (h : x.Ln 1048576) : x.cnt ≤ 3298534883328 := by
  have h0 := Ar.cnt_le h.a
  have h1 := cnt_LI h.prio
  unfold Pa.cnt
  try unfold Ar.cnt at *
  omega
end Go.Proofs.Ytfipgnbpkbnalaa
