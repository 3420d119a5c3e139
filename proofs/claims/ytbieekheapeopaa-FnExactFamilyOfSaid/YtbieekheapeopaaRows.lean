/-
  No cell of these rows narrows 'for every input' (looked for: loops, veiled, ifaces, maps, wideKeys, modest, calm, conditions, laid).
  DERIVED. THE GIVEN ROWS OF THIS SEAT. 10 by the template 'for every input the law returns true; each argument reads behind the call as it read before'; 0 by the template 'total and deterministic' (their statements: YtbieekheapeopaaTotals.lean).
  GIVEN WITH THE SEED: the statements are not yours to turn. If you find one false, say at which input.
  Laid BY PROGRAM, IN A SANDBOX (cutbox-rows.mjs): the forced cells as the released guide's own fill.sh prints them over the translation d54b39ec69ce02b1… (all of the seat's roots in one cut). By AI agents, Wed Nov 11 2026. No macro, syntax, notation, axiom, sorry.
-/
import Derived.Test.YtbieekheapeopaaChecked
import GoSem.Claim
import GoSem.ClaimJoined
import GoSem.ClaimMapViews
import Derived.JoinedTies
import Derived.KernelRfl
namespace Go.Proofs.Ytbieekheapeopaa
/- THE CELL 'sum', in the pinned program and in every row, IS THE sha256 OF THE DUMP (.gsa) THAT YtbieekheapeopaaProg.lean LOADS. Nothing in Lean hashes anything: it is a label: what it is worth is what the hold of that sum in a sandbox is worth. -/
noncomputable def Try.pinned : Pinned := { name := "ytbieekheapeopaa", sum := "d54b39ec69ce02b19865167d87b499ded14c24908c6fd5db0cf0b08bd5ab624d", checked := Try.checked }
namespace Rows
def none {H : Type} : Left H := { results := [], args := [] }

/-- 'laws.FnExactFamilyOk': WHATEVER THE INPUT: true; the input reads as it did. -/
def fnExactFamilyOkSpec : ChangeSpec := { name := "fnExactFamilyOk", fn := fun _ => fun
  | [d1, d2] => { results := [.lit (.bool true)], args := [d1, d2] }
  | _ => none }
def fnExactFamilyOkRow : OpenClaim := { program := "ytbieekheapeopaa", sum := "d54b39ec69ce02b19865167d87b499ded14c24908c6fd5db0cf0b08bd5ab624d", func := "loop.example/g00869/laws.FnExactFamilyOk", spec := "fnExactFamilyOk", unfollowed := true, recurses := true, apart := false }
def FnExactFamilyOkSaid : Prop := fnExactFamilyOkRow.holds Try.pinned (OpenSpec.ofChange fnExactFamilyOkSpec)

/-- ITS FALSE NEIGHBOUR: 'it returns false'. Refute it at one input. -/
def fnExactFamilyOkWrong : ChangeSpec := { name := "fnExactFamilyOk", fn := fun _ => fun
  | [d1, d2] => { results := [.lit (.bool false)], args := [d1, d2] }
  | _ => none }
def FnExactFamilyOkWrongFalsely : Prop := fnExactFamilyOkRow.holds Try.pinned (OpenSpec.ofChange fnExactFamilyOkWrong)

/-- 'laws.FnExactFamilyMet': WHATEVER THE INPUT: true; the input reads as it did. -/
def fnExactFamilyMetSpec : ChangeSpec := { name := "fnExactFamilyMet", fn := fun _ => fun
  | [d1, d2] => { results := [.lit (.bool true)], args := [d1, d2] }
  | _ => none }
def fnExactFamilyMetRow : OpenClaim := { program := "ytbieekheapeopaa", sum := "d54b39ec69ce02b19865167d87b499ded14c24908c6fd5db0cf0b08bd5ab624d", func := "loop.example/g00869/laws.FnExactFamilyMet", spec := "fnExactFamilyMet", unfollowed := true, recurses := true, apart := false }
def FnExactFamilyMetSaid : Prop := fnExactFamilyMetRow.holds Try.pinned (OpenSpec.ofChange fnExactFamilyMetSpec)

/-- ITS FALSE NEIGHBOUR: 'it returns false'. Refute it at one input. -/
def fnExactFamilyMetWrong : ChangeSpec := { name := "fnExactFamilyMet", fn := fun _ => fun
  | [d1, d2] => { results := [.lit (.bool false)], args := [d1, d2] }
  | _ => none }
def FnExactFamilyMetWrongFalsely : Prop := fnExactFamilyMetRow.holds Try.pinned (OpenSpec.ofChange fnExactFamilyMetWrong)

/-- 'laws.FnExactFamilyOther': WHATEVER THE INPUT: true; the input reads as it did. -/
def fnExactFamilyOtherSpec : ChangeSpec := { name := "fnExactFamilyOther", fn := fun _ => fun
  | [d] => { results := [.lit (.bool true)], args := [d] }
  | _ => none }
def fnExactFamilyOtherRow : OpenClaim := { program := "ytbieekheapeopaa", sum := "d54b39ec69ce02b19865167d87b499ded14c24908c6fd5db0cf0b08bd5ab624d", func := "loop.example/g00869/laws.FnExactFamilyOther", spec := "fnExactFamilyOther", unfollowed := true, recurses := true, apart := false }
def FnExactFamilyOtherSaid : Prop := fnExactFamilyOtherRow.holds Try.pinned (OpenSpec.ofChange fnExactFamilyOtherSpec)

/-- ITS FALSE NEIGHBOUR: 'it returns false'. Refute it at one input. -/
def fnExactFamilyOtherWrong : ChangeSpec := { name := "fnExactFamilyOther", fn := fun _ => fun
  | [d] => { results := [.lit (.bool false)], args := [d] }
  | _ => none }
def FnExactFamilyOtherWrongFalsely : Prop := fnExactFamilyOtherRow.holds Try.pinned (OpenSpec.ofChange fnExactFamilyOtherWrong)

/-- 'laws.FnExactVisitsOk': WHATEVER THE INPUT: true; the input reads as it did. -/
def fnExactVisitsOkSpec : ChangeSpec := { name := "fnExactVisitsOk", fn := fun _ => fun
  | [d1, d2] => { results := [.lit (.bool true)], args := [d1, d2] }
  | _ => none }
def fnExactVisitsOkRow : OpenClaim := { program := "ytbieekheapeopaa", sum := "d54b39ec69ce02b19865167d87b499ded14c24908c6fd5db0cf0b08bd5ab624d", func := "loop.example/g00869/laws.FnExactVisitsOk", spec := "fnExactVisitsOk", unfollowed := true, recurses := true, apart := false }
def FnExactVisitsOkSaid : Prop := fnExactVisitsOkRow.holds Try.pinned (OpenSpec.ofChange fnExactVisitsOkSpec)

/-- ITS FALSE NEIGHBOUR: 'it returns false'. Refute it at one input. -/
def fnExactVisitsOkWrong : ChangeSpec := { name := "fnExactVisitsOk", fn := fun _ => fun
  | [d1, d2] => { results := [.lit (.bool false)], args := [d1, d2] }
  | _ => none }
def FnExactVisitsOkWrongFalsely : Prop := fnExactVisitsOkRow.holds Try.pinned (OpenSpec.ofChange fnExactVisitsOkWrong)

/-- 'laws.FnExactVisitPrio': WHATEVER THE INPUT: true; the input reads as it did. -/
def fnExactVisitPrioSpec : ChangeSpec := { name := "fnExactVisitPrio", fn := fun _ => fun
  | [d1, d2, d3] => { results := [.lit (.bool true)], args := [d1, d2, d3] }
  | _ => none }
def fnExactVisitPrioRow : OpenClaim := { program := "ytbieekheapeopaa", sum := "d54b39ec69ce02b19865167d87b499ded14c24908c6fd5db0cf0b08bd5ab624d", func := "loop.example/g00869/laws.FnExactVisitPrio", spec := "fnExactVisitPrio", unfollowed := true, recurses := true, apart := false }
def FnExactVisitPrioSaid : Prop := fnExactVisitPrioRow.holds Try.pinned (OpenSpec.ofChange fnExactVisitPrioSpec)

/-- ITS FALSE NEIGHBOUR: 'it returns false'. Refute it at one input. -/
def fnExactVisitPrioWrong : ChangeSpec := { name := "fnExactVisitPrio", fn := fun _ => fun
  | [d1, d2, d3] => { results := [.lit (.bool false)], args := [d1, d2, d3] }
  | _ => none }
def FnExactVisitPrioWrongFalsely : Prop := fnExactVisitPrioRow.holds Try.pinned (OpenSpec.ofChange fnExactVisitPrioWrong)

/-- 'laws.FnExactNextVisits': WHATEVER THE INPUT: true; the input reads as it did. -/
def fnExactNextVisitsSpec : ChangeSpec := { name := "fnExactNextVisits", fn := fun _ => fun
  | [d1, d2, d3] => { results := [.lit (.bool true)], args := [d1, d2, d3] }
  | _ => none }
def fnExactNextVisitsRow : OpenClaim := { program := "ytbieekheapeopaa", sum := "d54b39ec69ce02b19865167d87b499ded14c24908c6fd5db0cf0b08bd5ab624d", func := "loop.example/g00869/laws.FnExactNextVisits", spec := "fnExactNextVisits", unfollowed := true, recurses := true, apart := false }
def FnExactNextVisitsSaid : Prop := fnExactNextVisitsRow.holds Try.pinned (OpenSpec.ofChange fnExactNextVisitsSpec)

/-- ITS FALSE NEIGHBOUR: 'it returns false'. Refute it at one input. -/
def fnExactNextVisitsWrong : ChangeSpec := { name := "fnExactNextVisits", fn := fun _ => fun
  | [d1, d2, d3] => { results := [.lit (.bool false)], args := [d1, d2, d3] }
  | _ => none }
def FnExactNextVisitsWrongFalsely : Prop := fnExactNextVisitsRow.holds Try.pinned (OpenSpec.ofChange fnExactNextVisitsWrong)

/-- 'laws.FnExactFamilyOf': WHATEVER THE INPUT: true; the input reads as it did. -/
def fnExactFamilyOfSpec : ChangeSpec := { name := "fnExactFamilyOf", fn := fun _ => fun
  | [d1, d2] => { results := [.lit (.bool true)], args := [d1, d2] }
  | _ => none }
def fnExactFamilyOfRow : OpenClaim := { program := "ytbieekheapeopaa", sum := "d54b39ec69ce02b19865167d87b499ded14c24908c6fd5db0cf0b08bd5ab624d", func := "loop.example/g00869/laws.FnExactFamilyOf", spec := "fnExactFamilyOf", recurses := true, apart := false }
def FnExactFamilyOfSaid : Prop := fnExactFamilyOfRow.holds Try.pinned (OpenSpec.ofChange fnExactFamilyOfSpec)

/-- ITS FALSE NEIGHBOUR: 'it returns false'. Refute it at one input. -/
def fnExactFamilyOfWrong : ChangeSpec := { name := "fnExactFamilyOf", fn := fun _ => fun
  | [d1, d2] => { results := [.lit (.bool false)], args := [d1, d2] }
  | _ => none }
def FnExactFamilyOfWrongFalsely : Prop := fnExactFamilyOfRow.holds Try.pinned (OpenSpec.ofChange fnExactFamilyOfWrong)

/-- 'laws.FnExactFamilyGame': WHATEVER THE INPUT: true; the input reads as it did. -/
def fnExactFamilyGameSpec : ChangeSpec := { name := "fnExactFamilyGame", fn := fun _ => fun
  | [d1, d2, d3] => { results := [.lit (.bool true)], args := [d1, d2, d3] }
  | _ => none }
def fnExactFamilyGameRow : OpenClaim := { program := "ytbieekheapeopaa", sum := "d54b39ec69ce02b19865167d87b499ded14c24908c6fd5db0cf0b08bd5ab624d", func := "loop.example/g00869/laws.FnExactFamilyGame", spec := "fnExactFamilyGame", unfollowed := true, recurses := true, apart := false }
def FnExactFamilyGameSaid : Prop := fnExactFamilyGameRow.holds Try.pinned (OpenSpec.ofChange fnExactFamilyGameSpec)

/-- ITS FALSE NEIGHBOUR: 'it returns false'. Refute it at one input. -/
def fnExactFamilyGameWrong : ChangeSpec := { name := "fnExactFamilyGame", fn := fun _ => fun
  | [d1, d2, d3] => { results := [.lit (.bool false)], args := [d1, d2, d3] }
  | _ => none }
def FnExactFamilyGameWrongFalsely : Prop := fnExactFamilyGameRow.holds Try.pinned (OpenSpec.ofChange fnExactFamilyGameWrong)

/-- 'laws.FnVisits': WHATEVER THE INPUT: true; the input reads as it did. -/
def fnVisitsSpec : ChangeSpec := { name := "fnVisits", fn := fun _ => fun
  | [d] => { results := [.lit (.bool true)], args := [d] }
  | _ => none }
def fnVisitsRow : OpenClaim := { program := "ytbieekheapeopaa", sum := "d54b39ec69ce02b19865167d87b499ded14c24908c6fd5db0cf0b08bd5ab624d", func := "loop.example/g00869/laws.FnVisits", spec := "fnVisits", unfollowed := true, recurses := true, apart := false }
def FnVisitsSaid : Prop := fnVisitsRow.holds Try.pinned (OpenSpec.ofChange fnVisitsSpec)

/-- ITS FALSE NEIGHBOUR: 'it returns false'. Refute it at one input. -/
def fnVisitsWrong : ChangeSpec := { name := "fnVisits", fn := fun _ => fun
  | [d] => { results := [.lit (.bool false)], args := [d] }
  | _ => none }
def FnVisitsWrongFalsely : Prop := fnVisitsRow.holds Try.pinned (OpenSpec.ofChange fnVisitsWrong)

/-- 'laws.FnRecordSteps': WHATEVER THE INPUT: true; the input reads as it did. -/
def fnRecordStepsSpec : ChangeSpec := { name := "fnRecordSteps", fn := fun _ => fun
  | [d] => { results := [.lit (.bool true)], args := [d] }
  | _ => none }
def fnRecordStepsRow : OpenClaim := { program := "ytbieekheapeopaa", sum := "d54b39ec69ce02b19865167d87b499ded14c24908c6fd5db0cf0b08bd5ab624d", func := "loop.example/g00869/laws.FnRecordSteps", spec := "fnRecordSteps", apart := false }
def FnRecordStepsSaid : Prop := fnRecordStepsRow.holds Try.pinned (OpenSpec.ofChange fnRecordStepsSpec)

/-- ITS FALSE NEIGHBOUR: 'it returns false'. Refute it at one input. -/
def fnRecordStepsWrong : ChangeSpec := { name := "fnRecordSteps", fn := fun _ => fun
  | [d] => { results := [.lit (.bool false)], args := [d] }
  | _ => none }
def FnRecordStepsWrongFalsely : Prop := fnRecordStepsRow.holds Try.pinned (OpenSpec.ofChange fnRecordStepsWrong)

/- THE SECOND FORM. 'bulk': how many values and letters a reading holds, each counted each time it is reached (what is shared counts as often as it is met; a slice's spare places count too). A statement '..UptoSaid' is the law's where the arguments, and the package variables that the reading takes, are together of bulk at most 1048576: NARROWER than '..Said'. Prove '..Said' where nothing that the law and all that it calls make is longer than what came in: it says more and counts as full. Else prove '..UptoSaid'. A law counts once. -/
mutual
def uptoBulk {H : Type} : DataW H → Nat
  | .lit (.string bytes) => bytes.length + 1
  | .lit _ => 1
  | .nil => 1
  | .ptr d => uptoBulk d + 1
  | .slice elems spare => uptoBulkAll elems + uptoBulkAll spare + 1
  | .agg parts => uptoBulkAll parts + 1
  | .iface _ d => uptoBulk d + 1
  | .map entries => uptoBulkEntries entries + 1
  | .held _ => 1
def uptoBulkAll {H : Type} : List (DataW H) → Nat
  | [] => 0
  | d :: r => uptoBulk d + uptoBulkAll r
def uptoBulkEntries {H : Type} : List (Lit × DataW H) → Nat
  | [] => 0
  | x :: r => uptoBulkEntry x + uptoBulkEntries r
def uptoBulkEntry {H : Type} : Lit × DataW H → Nat
  | (.string bytes, d) => bytes.length + uptoBulk d + 1
  | (_, d) => uptoBulk d + 1
 end
def uptoSmall : (H : Type) → List (DataW H) → Bool := fun _ ds => decide (uptoBulkAll ds ≤ 1048576)
def OpenSpec.upto (s : _root_.Go.ChangeSpec) : _root_.Go.OpenSpec := { _root_.Go.OpenSpec.ofChange s with cond := some uptoSmall }

/-- 'laws.FnExactFamilyOk', WHERE WHAT IT READS IS OF BULK AT MOST 1048576: true; the input reads as it did. -/
def fnExactFamilyOkUptoRow : OpenClaim := { program := "ytbieekheapeopaa", sum := "d54b39ec69ce02b19865167d87b499ded14c24908c6fd5db0cf0b08bd5ab624d", func := "loop.example/g00869/laws.FnExactFamilyOk", spec := "fnExactFamilyOk", unfollowed := true, recurses := true, apart := false, narrowed := true }
def FnExactFamilyOkUptoSaid : Prop := fnExactFamilyOkUptoRow.holds Try.pinned (OpenSpec.upto fnExactFamilyOkSpec)

/-- 'laws.FnExactFamilyMet', WHERE WHAT IT READS IS OF BULK AT MOST 1048576: true; the input reads as it did. -/
def fnExactFamilyMetUptoRow : OpenClaim := { program := "ytbieekheapeopaa", sum := "d54b39ec69ce02b19865167d87b499ded14c24908c6fd5db0cf0b08bd5ab624d", func := "loop.example/g00869/laws.FnExactFamilyMet", spec := "fnExactFamilyMet", unfollowed := true, recurses := true, apart := false, narrowed := true }
def FnExactFamilyMetUptoSaid : Prop := fnExactFamilyMetUptoRow.holds Try.pinned (OpenSpec.upto fnExactFamilyMetSpec)

/-- 'laws.FnExactFamilyOther', WHERE WHAT IT READS IS OF BULK AT MOST 1048576: true; the input reads as it did. -/
def fnExactFamilyOtherUptoRow : OpenClaim := { program := "ytbieekheapeopaa", sum := "d54b39ec69ce02b19865167d87b499ded14c24908c6fd5db0cf0b08bd5ab624d", func := "loop.example/g00869/laws.FnExactFamilyOther", spec := "fnExactFamilyOther", unfollowed := true, recurses := true, apart := false, narrowed := true }
def FnExactFamilyOtherUptoSaid : Prop := fnExactFamilyOtherUptoRow.holds Try.pinned (OpenSpec.upto fnExactFamilyOtherSpec)

/-- 'laws.FnExactVisitsOk', WHERE WHAT IT READS IS OF BULK AT MOST 1048576: true; the input reads as it did. -/
def fnExactVisitsOkUptoRow : OpenClaim := { program := "ytbieekheapeopaa", sum := "d54b39ec69ce02b19865167d87b499ded14c24908c6fd5db0cf0b08bd5ab624d", func := "loop.example/g00869/laws.FnExactVisitsOk", spec := "fnExactVisitsOk", unfollowed := true, recurses := true, apart := false, narrowed := true }
def FnExactVisitsOkUptoSaid : Prop := fnExactVisitsOkUptoRow.holds Try.pinned (OpenSpec.upto fnExactVisitsOkSpec)

/-- 'laws.FnExactVisitPrio', WHERE WHAT IT READS IS OF BULK AT MOST 1048576: true; the input reads as it did. -/
def fnExactVisitPrioUptoRow : OpenClaim := { program := "ytbieekheapeopaa", sum := "d54b39ec69ce02b19865167d87b499ded14c24908c6fd5db0cf0b08bd5ab624d", func := "loop.example/g00869/laws.FnExactVisitPrio", spec := "fnExactVisitPrio", unfollowed := true, recurses := true, apart := false, narrowed := true }
def FnExactVisitPrioUptoSaid : Prop := fnExactVisitPrioUptoRow.holds Try.pinned (OpenSpec.upto fnExactVisitPrioSpec)

/-- 'laws.FnExactNextVisits', WHERE WHAT IT READS IS OF BULK AT MOST 1048576: true; the input reads as it did. -/
def fnExactNextVisitsUptoRow : OpenClaim := { program := "ytbieekheapeopaa", sum := "d54b39ec69ce02b19865167d87b499ded14c24908c6fd5db0cf0b08bd5ab624d", func := "loop.example/g00869/laws.FnExactNextVisits", spec := "fnExactNextVisits", unfollowed := true, recurses := true, apart := false, narrowed := true }
def FnExactNextVisitsUptoSaid : Prop := fnExactNextVisitsUptoRow.holds Try.pinned (OpenSpec.upto fnExactNextVisitsSpec)

/-- 'laws.FnExactFamilyOf', WHERE WHAT IT READS IS OF BULK AT MOST 1048576: true; the input reads as it did. -/
def fnExactFamilyOfUptoRow : OpenClaim := { program := "ytbieekheapeopaa", sum := "d54b39ec69ce02b19865167d87b499ded14c24908c6fd5db0cf0b08bd5ab624d", func := "loop.example/g00869/laws.FnExactFamilyOf", spec := "fnExactFamilyOf", recurses := true, apart := false, narrowed := true }
def FnExactFamilyOfUptoSaid : Prop := fnExactFamilyOfUptoRow.holds Try.pinned (OpenSpec.upto fnExactFamilyOfSpec)

/-- 'laws.FnExactFamilyGame', WHERE WHAT IT READS IS OF BULK AT MOST 1048576: true; the input reads as it did. -/
def fnExactFamilyGameUptoRow : OpenClaim := { program := "ytbieekheapeopaa", sum := "d54b39ec69ce02b19865167d87b499ded14c24908c6fd5db0cf0b08bd5ab624d", func := "loop.example/g00869/laws.FnExactFamilyGame", spec := "fnExactFamilyGame", unfollowed := true, recurses := true, apart := false, narrowed := true }
def FnExactFamilyGameUptoSaid : Prop := fnExactFamilyGameUptoRow.holds Try.pinned (OpenSpec.upto fnExactFamilyGameSpec)

/-- 'laws.FnVisits', WHERE WHAT IT READS IS OF BULK AT MOST 1048576: true; the input reads as it did. -/
def fnVisitsUptoRow : OpenClaim := { program := "ytbieekheapeopaa", sum := "d54b39ec69ce02b19865167d87b499ded14c24908c6fd5db0cf0b08bd5ab624d", func := "loop.example/g00869/laws.FnVisits", spec := "fnVisits", unfollowed := true, recurses := true, apart := false, narrowed := true }
def FnVisitsUptoSaid : Prop := fnVisitsUptoRow.holds Try.pinned (OpenSpec.upto fnVisitsSpec)

/-- 'laws.FnRecordSteps', WHERE WHAT IT READS IS OF BULK AT MOST 1048576: true; the input reads as it did. -/
def fnRecordStepsUptoRow : OpenClaim := { program := "ytbieekheapeopaa", sum := "d54b39ec69ce02b19865167d87b499ded14c24908c6fd5db0cf0b08bd5ab624d", func := "loop.example/g00869/laws.FnRecordSteps", spec := "fnRecordSteps", apart := false, narrowed := true }
def FnRecordStepsUptoSaid : Prop := fnRecordStepsUptoRow.holds Try.pinned (OpenSpec.upto fnRecordStepsSpec)

end Rows
end Go.Proofs.Ytbieekheapeopaa
