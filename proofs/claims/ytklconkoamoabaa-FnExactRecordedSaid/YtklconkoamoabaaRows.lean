/-
  No cell of these rows narrows 'for every input' (looked for: loops, veiled, ifaces, maps, wideKeys, modest, calm, conditions, laid).
  DERIVED. THE GIVEN ROWS OF THIS SEAT. 5 by the template 'for every input the law returns true; each argument reads behind the call as it read before'; 0 by the template 'total and deterministic' (their statements: YtklconkoamoabaaTotals.lean).
  GIVEN WITH THE SEED: the statements are not yours to turn. If you find one false, say at which input.
  Laid BY PROGRAM, IN A SANDBOX (cutbox-rows.mjs): the forced cells as the released guide's own fill.sh prints them over the translation 2939d7649495d199… (all of the seat's roots in one cut). By AI agents, Wed Nov 11 2026. No macro, syntax, notation, axiom, sorry.
-/
import Derived.Test.YtklconkoamoabaaChecked
import GoSem.Claim
import GoSem.ClaimJoined
import GoSem.ClaimMapViews
import Derived.JoinedTies
import Derived.KernelRfl
namespace Go.Proofs.Ytklconkoamoabaa
/- THE CELL 'sum', in the pinned program and in every row, IS THE sha256 OF THE DUMP (.gsa) THAT YtklconkoamoabaaProg.lean LOADS. Nothing in Lean hashes anything: it is a label: what it is worth is what the hold of that sum in a sandbox is worth. -/
noncomputable def Try.pinned : Pinned := { name := "ytklconkoamoabaa", sum := "2939d7649495d1991674d310df6a782925c4e7c46940a5126871681f34e8ecd2", checked := Try.checked }
namespace Rows
def none {H : Type} : Left H := { results := [], args := [] }

/-- 'laws.FnExactMemoryPlaces': WHATEVER THE INPUT: true; the input reads as it did. -/
def fnExactMemoryPlacesSpec : ChangeSpec := { name := "fnExactMemoryPlaces", fn := fun _ => fun
  | [d1, d2, d3] => { results := [.lit (.bool true)], args := [d1, d2, d3] }
  | _ => none }
def fnExactMemoryPlacesRow : OpenClaim := { program := "ytklconkoamoabaa", sum := "2939d7649495d1991674d310df6a782925c4e7c46940a5126871681f34e8ecd2", func := "loop.example/g00869/laws.FnExactMemoryPlaces", spec := "fnExactMemoryPlaces", plainKeys := false, apart := false }
def FnExactMemoryPlacesSaid : Prop := fnExactMemoryPlacesRow.holds Try.pinned (OpenSpec.ofChange fnExactMemoryPlacesSpec)

/-- ITS FALSE NEIGHBOUR: 'it returns false'. Refute it at one input. -/
def fnExactMemoryPlacesWrong : ChangeSpec := { name := "fnExactMemoryPlaces", fn := fun _ => fun
  | [d1, d2, d3] => { results := [.lit (.bool false)], args := [d1, d2, d3] }
  | _ => none }
def FnExactMemoryPlacesWrongFalsely : Prop := fnExactMemoryPlacesRow.holds Try.pinned (OpenSpec.ofChange fnExactMemoryPlacesWrong)

/-- 'laws.FnExactTrimmedMemory': WHATEVER THE INPUT: true; the input reads as it did. -/
def fnExactTrimmedMemorySpec : ChangeSpec := { name := "fnExactTrimmedMemory", fn := fun _ => fun
  | [d1, d2, d3] => { results := [.lit (.bool true)], args := [d1, d2, d3] }
  | _ => none }
def fnExactTrimmedMemoryRow : OpenClaim := { program := "ytklconkoamoabaa", sum := "2939d7649495d1991674d310df6a782925c4e7c46940a5126871681f34e8ecd2", func := "loop.example/g00869/laws.FnExactTrimmedMemory", spec := "fnExactTrimmedMemory", plainKeys := false, apart := false }
def FnExactTrimmedMemorySaid : Prop := fnExactTrimmedMemoryRow.holds Try.pinned (OpenSpec.ofChange fnExactTrimmedMemorySpec)

/-- ITS FALSE NEIGHBOUR: 'it returns false'. Refute it at one input. -/
def fnExactTrimmedMemoryWrong : ChangeSpec := { name := "fnExactTrimmedMemory", fn := fun _ => fun
  | [d1, d2, d3] => { results := [.lit (.bool false)], args := [d1, d2, d3] }
  | _ => none }
def FnExactTrimmedMemoryWrongFalsely : Prop := fnExactTrimmedMemoryRow.holds Try.pinned (OpenSpec.ofChange fnExactTrimmedMemoryWrong)

/-- 'laws.FnExactFamilyGame': WHATEVER THE INPUT: true; the input reads as it did. -/
def fnExactFamilyGameSpec : ChangeSpec := { name := "fnExactFamilyGame", fn := fun _ => fun
  | [d1, d2, d3] => { results := [.lit (.bool true)], args := [d1, d2, d3] }
  | _ => none }
def fnExactFamilyGameRow : OpenClaim := { program := "ytklconkoamoabaa", sum := "2939d7649495d1991674d310df6a782925c4e7c46940a5126871681f34e8ecd2", func := "loop.example/g00869/laws.FnExactFamilyGame", spec := "fnExactFamilyGame", unfollowed := true, recurses := true, plainKeys := false, apart := false }
def FnExactFamilyGameSaid : Prop := fnExactFamilyGameRow.holds Try.pinned (OpenSpec.ofChange fnExactFamilyGameSpec)

/-- ITS FALSE NEIGHBOUR: 'it returns false'. Refute it at one input. -/
def fnExactFamilyGameWrong : ChangeSpec := { name := "fnExactFamilyGame", fn := fun _ => fun
  | [d1, d2, d3] => { results := [.lit (.bool false)], args := [d1, d2, d3] }
  | _ => none }
def FnExactFamilyGameWrongFalsely : Prop := fnExactFamilyGameRow.holds Try.pinned (OpenSpec.ofChange fnExactFamilyGameWrong)

/-- 'laws.FnExactRecorded': WHATEVER THE INPUT: true; the input reads as it did. -/
def fnExactRecordedSpec : ChangeSpec := { name := "fnExactRecorded", fn := fun _ => fun
  | [d1, d2, d3] => { results := [.lit (.bool true)], args := [d1, d2, d3] }
  | _ => none }
def fnExactRecordedRow : OpenClaim := { program := "ytklconkoamoabaa", sum := "2939d7649495d1991674d310df6a782925c4e7c46940a5126871681f34e8ecd2", func := "loop.example/g00869/laws.FnExactRecorded", spec := "fnExactRecorded", unfollowed := true, recurses := true, plainKeys := false, apart := false }
def FnExactRecordedSaid : Prop := fnExactRecordedRow.holds Try.pinned (OpenSpec.ofChange fnExactRecordedSpec)

/-- ITS FALSE NEIGHBOUR: 'it returns false'. Refute it at one input. -/
def fnExactRecordedWrong : ChangeSpec := { name := "fnExactRecorded", fn := fun _ => fun
  | [d1, d2, d3] => { results := [.lit (.bool false)], args := [d1, d2, d3] }
  | _ => none }
def FnExactRecordedWrongFalsely : Prop := fnExactRecordedRow.holds Try.pinned (OpenSpec.ofChange fnExactRecordedWrong)

/-- 'laws.FnExactPairsWinner': WHATEVER THE INPUT: true; the input reads as it did. -/
def fnExactPairsWinnerSpec : ChangeSpec := { name := "fnExactPairsWinner", fn := fun _ => fun
  | [d1, d2, d3] => { results := [.lit (.bool true)], args := [d1, d2, d3] }
  | _ => none }
def fnExactPairsWinnerRow : OpenClaim := { program := "ytklconkoamoabaa", sum := "2939d7649495d1991674d310df6a782925c4e7c46940a5126871681f34e8ecd2", func := "loop.example/g00869/laws.FnExactPairsWinner", spec := "fnExactPairsWinner", unfollowed := true, recurses := true, plainKeys := false, apart := false }
def FnExactPairsWinnerSaid : Prop := fnExactPairsWinnerRow.holds Try.pinned (OpenSpec.ofChange fnExactPairsWinnerSpec)

/-- ITS FALSE NEIGHBOUR: 'it returns false'. Refute it at one input. -/
def fnExactPairsWinnerWrong : ChangeSpec := { name := "fnExactPairsWinner", fn := fun _ => fun
  | [d1, d2, d3] => { results := [.lit (.bool false)], args := [d1, d2, d3] }
  | _ => none }
def FnExactPairsWinnerWrongFalsely : Prop := fnExactPairsWinnerRow.holds Try.pinned (OpenSpec.ofChange fnExactPairsWinnerWrong)

/- THE SECOND FORM. 'bulk': how many values and letters a reading holds, each counted each time it is reached (what is shared counts as often as it is met; a slice's spare places count too). A statement '..UptoSaid' is the law's where the arguments, and the package variables that the reading takes, are together of bulk at most 1048576: NARROWER than '..Said'. Prove '..Said' where nothing that the law and all that it calls make is longer than what came in: it says more and counts as full. Else prove '..UptoSaid'. A law counts once. -/
mutual
def uptoBulk {H : Type} : DataW H → Nat
  | .lit (.string bytes) => bytes.length + 1
  | .lit _ => 1
  | .nil => 1
  | .ptr d => uptoBulk d + 1
  | .slice elems spare => uptoBulkAll elems + uptoBulkAll spare + 1
  | .agg parts => uptoBulkAll parts + 1
  | .iface _ d => uptoBulk d + 1
  | .map entries => uptoBulkEntries entries + 1
  | .held _ => 1
def uptoBulkAll {H : Type} : List (DataW H) → Nat
  | [] => 0
  | d :: r => uptoBulk d + uptoBulkAll r
def uptoBulkEntries {H : Type} : List (Lit × DataW H) → Nat
  | [] => 0
  | x :: r => uptoBulkEntry x + uptoBulkEntries r
def uptoBulkEntry {H : Type} : Lit × DataW H → Nat
  | (.string bytes, d) => bytes.length + uptoBulk d + 1
  | (_, d) => uptoBulk d + 1
 end
def uptoSmall : (H : Type) → List (DataW H) → Bool := fun _ ds => decide (uptoBulkAll ds ≤ 1048576)
def OpenSpec.upto (s : _root_.Go.ChangeSpec) : _root_.Go.OpenSpec := { _root_.Go.OpenSpec.ofChange s with cond := some uptoSmall }

/-- 'laws.FnExactMemoryPlaces', WHERE WHAT IT READS IS OF BULK AT MOST 1048576: true; the input reads as it did. -/
def fnExactMemoryPlacesUptoRow : OpenClaim := { program := "ytklconkoamoabaa", sum := "2939d7649495d1991674d310df6a782925c4e7c46940a5126871681f34e8ecd2", func := "loop.example/g00869/laws.FnExactMemoryPlaces", spec := "fnExactMemoryPlaces", plainKeys := false, apart := false, narrowed := true }
def FnExactMemoryPlacesUptoSaid : Prop := fnExactMemoryPlacesUptoRow.holds Try.pinned (OpenSpec.upto fnExactMemoryPlacesSpec)

/-- 'laws.FnExactTrimmedMemory', WHERE WHAT IT READS IS OF BULK AT MOST 1048576: true; the input reads as it did. -/
def fnExactTrimmedMemoryUptoRow : OpenClaim := { program := "ytklconkoamoabaa", sum := "2939d7649495d1991674d310df6a782925c4e7c46940a5126871681f34e8ecd2", func := "loop.example/g00869/laws.FnExactTrimmedMemory", spec := "fnExactTrimmedMemory", plainKeys := false, apart := false, narrowed := true }
def FnExactTrimmedMemoryUptoSaid : Prop := fnExactTrimmedMemoryUptoRow.holds Try.pinned (OpenSpec.upto fnExactTrimmedMemorySpec)

/-- 'laws.FnExactFamilyGame', WHERE WHAT IT READS IS OF BULK AT MOST 1048576: true; the input reads as it did. -/
def fnExactFamilyGameUptoRow : OpenClaim := { program := "ytklconkoamoabaa", sum := "2939d7649495d1991674d310df6a782925c4e7c46940a5126871681f34e8ecd2", func := "loop.example/g00869/laws.FnExactFamilyGame", spec := "fnExactFamilyGame", unfollowed := true, recurses := true, plainKeys := false, apart := false, narrowed := true }
def FnExactFamilyGameUptoSaid : Prop := fnExactFamilyGameUptoRow.holds Try.pinned (OpenSpec.upto fnExactFamilyGameSpec)

/-- 'laws.FnExactRecorded', WHERE WHAT IT READS IS OF BULK AT MOST 1048576: true; the input reads as it did. -/
def fnExactRecordedUptoRow : OpenClaim := { program := "ytklconkoamoabaa", sum := "2939d7649495d1991674d310df6a782925c4e7c46940a5126871681f34e8ecd2", func := "loop.example/g00869/laws.FnExactRecorded", spec := "fnExactRecorded", unfollowed := true, recurses := true, plainKeys := false, apart := false, narrowed := true }
def FnExactRecordedUptoSaid : Prop := fnExactRecordedUptoRow.holds Try.pinned (OpenSpec.upto fnExactRecordedSpec)

/-- 'laws.FnExactPairsWinner', WHERE WHAT IT READS IS OF BULK AT MOST 1048576: true; the input reads as it did. -/
def fnExactPairsWinnerUptoRow : OpenClaim := { program := "ytklconkoamoabaa", sum := "2939d7649495d1991674d310df6a782925c4e7c46940a5126871681f34e8ecd2", func := "loop.example/g00869/laws.FnExactPairsWinner", spec := "fnExactPairsWinner", unfollowed := true, recurses := true, plainKeys := false, apart := false, narrowed := true }
def FnExactPairsWinnerUptoSaid : Prop := fnExactPairsWinnerUptoRow.holds Try.pinned (OpenSpec.upto fnExactPairsWinnerSpec)

end Rows
end Go.Proofs.Ytklconkoamoabaa
