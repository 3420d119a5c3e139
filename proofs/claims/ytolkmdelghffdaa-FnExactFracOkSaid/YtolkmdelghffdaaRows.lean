/-
  No cell of these rows narrows 'for every input' (looked for: loops, veiled, ifaces, maps, wideKeys, modest, calm, conditions, laid).
  DERIVED. THE GIVEN ROWS OF THIS SEAT. 5 by the template 'for every input the law returns true; each argument reads behind the call as it read before'; 0 by the template 'total and deterministic' (their statements: YtolkmdelghffdaaTotals.lean).
  GIVEN WITH THE SEED: the statements are not yours to turn. If you find one false, say at which input.
  Laid BY PROGRAM, IN A SANDBOX (cutbox-rows.mjs): the forced cells as the released guide's own fill.sh prints them over the translation 19923c6db64e4a60… (all of the seat's roots in one cut). By AI agents, Wed Nov 11 2026. No macro, syntax, notation, axiom, sorry.
-/
import Derived.Test.YtolkmdelghffdaaChecked
import GoSem.Claim
import GoSem.ClaimJoined
import GoSem.ClaimMapViews
import Derived.JoinedTies
import Derived.KernelRfl
namespace Go.Proofs.Ytolkmdelghffdaa
/- THE CELL 'sum', in the pinned program and in every row, IS THE sha256 OF THE DUMP (.gsa) THAT YtolkmdelghffdaaProg.lean LOADS. Nothing in Lean hashes anything: it is a label: what it is worth is what the hold of that sum in a sandbox is worth. -/
noncomputable def Try.pinned : Pinned := { name := "ytolkmdelghffdaa", sum := "19923c6db64e4a608570937f8b5b90a050a9f387ab3f80ced9f531d58d11d1ae", checked := Try.checked }
namespace Rows
def none {H : Type} : Left H := { results := [], args := [] }

/-- 'laws.FnExactSigOk': WHATEVER THE INPUT: true; the input reads as it did. -/
def fnExactSigOkSpec : ChangeSpec := { name := "fnExactSigOk", fn := fun _ => fun
  | [d] => { results := [.lit (.bool true)], args := [d] }
  | _ => none }
def fnExactSigOkRow : OpenClaim := { program := "ytolkmdelghffdaa", sum := "19923c6db64e4a608570937f8b5b90a050a9f387ab3f80ced9f531d58d11d1ae", func := "loop.example/g00869/laws.FnExactSigOk", spec := "fnExactSigOk", apart := false }
def FnExactSigOkSaid : Prop := fnExactSigOkRow.holds Try.pinned (OpenSpec.ofChange fnExactSigOkSpec)

/-- ITS FALSE NEIGHBOUR: 'it returns false'. Refute it at one input. -/
def fnExactSigOkWrong : ChangeSpec := { name := "fnExactSigOk", fn := fun _ => fun
  | [d] => { results := [.lit (.bool false)], args := [d] }
  | _ => none }
def FnExactSigOkWrongFalsely : Prop := fnExactSigOkRow.holds Try.pinned (OpenSpec.ofChange fnExactSigOkWrong)

/-- 'laws.FnExactRecordsMany': WHATEVER THE INPUT: true; the input reads as it did. -/
def fnExactRecordsManySpec : ChangeSpec := { name := "fnExactRecordsMany", fn := fun _ => fun
  | [d] => { results := [.lit (.bool true)], args := [d] }
  | _ => none }
def fnExactRecordsManyRow : OpenClaim := { program := "ytolkmdelghffdaa", sum := "19923c6db64e4a608570937f8b5b90a050a9f387ab3f80ced9f531d58d11d1ae", func := "loop.example/g00869/laws.FnExactRecordsMany", spec := "fnExactRecordsMany", apart := false }
def FnExactRecordsManySaid : Prop := fnExactRecordsManyRow.holds Try.pinned (OpenSpec.ofChange fnExactRecordsManySpec)

/-- ITS FALSE NEIGHBOUR: 'it returns false'. Refute it at one input. -/
def fnExactRecordsManyWrong : ChangeSpec := { name := "fnExactRecordsMany", fn := fun _ => fun
  | [d] => { results := [.lit (.bool false)], args := [d] }
  | _ => none }
def FnExactRecordsManyWrongFalsely : Prop := fnExactRecordsManyRow.holds Try.pinned (OpenSpec.ofChange fnExactRecordsManyWrong)

/-- 'laws.FnExactFracOk': WHATEVER THE INPUT: true; the input reads as it did. -/
def fnExactFracOkSpec : ChangeSpec := { name := "fnExactFracOk", fn := fun _ => fun
  | [d] => { results := [.lit (.bool true)], args := [d] }
  | _ => none }
def fnExactFracOkRow : OpenClaim := { program := "ytolkmdelghffdaa", sum := "19923c6db64e4a608570937f8b5b90a050a9f387ab3f80ced9f531d58d11d1ae", func := "loop.example/g00869/laws.FnExactFracOk", spec := "fnExactFracOk", apart := false }
def FnExactFracOkSaid : Prop := fnExactFracOkRow.holds Try.pinned (OpenSpec.ofChange fnExactFracOkSpec)

/-- ITS FALSE NEIGHBOUR: 'it returns false'. Refute it at one input. -/
def fnExactFracOkWrong : ChangeSpec := { name := "fnExactFracOk", fn := fun _ => fun
  | [d] => { results := [.lit (.bool false)], args := [d] }
  | _ => none }
def FnExactFracOkWrongFalsely : Prop := fnExactFracOkRow.holds Try.pinned (OpenSpec.ofChange fnExactFracOkWrong)

/-- 'laws.FnExactFracLess': WHATEVER THE INPUT: true; the input reads as it did. -/
def fnExactFracLessSpec : ChangeSpec := { name := "fnExactFracLess", fn := fun _ => fun
  | [d1, d2] => { results := [.lit (.bool true)], args := [d1, d2] }
  | _ => none }
def fnExactFracLessRow : OpenClaim := { program := "ytolkmdelghffdaa", sum := "19923c6db64e4a608570937f8b5b90a050a9f387ab3f80ced9f531d58d11d1ae", func := "loop.example/g00869/laws.FnExactFracLess", spec := "fnExactFracLess", apart := false }
def FnExactFracLessSaid : Prop := fnExactFracLessRow.holds Try.pinned (OpenSpec.ofChange fnExactFracLessSpec)

/-- ITS FALSE NEIGHBOUR: 'it returns false'. Refute it at one input. -/
def fnExactFracLessWrong : ChangeSpec := { name := "fnExactFracLess", fn := fun _ => fun
  | [d1, d2] => { results := [.lit (.bool false)], args := [d1, d2] }
  | _ => none }
def FnExactFracLessWrongFalsely : Prop := fnExactFracLessRow.holds Try.pinned (OpenSpec.ofChange fnExactFracLessWrong)

/-- 'laws.FnExactFracOf': WHATEVER THE INPUT: true; the input reads as it did. -/
def fnExactFracOfSpec : ChangeSpec := { name := "fnExactFracOf", fn := fun _ => fun
  | [d1, d2] => { results := [.lit (.bool true)], args := [d1, d2] }
  | _ => none }
def fnExactFracOfRow : OpenClaim := { program := "ytolkmdelghffdaa", sum := "19923c6db64e4a608570937f8b5b90a050a9f387ab3f80ced9f531d58d11d1ae", func := "loop.example/g00869/laws.FnExactFracOf", spec := "fnExactFracOf", apart := false }
def FnExactFracOfSaid : Prop := fnExactFracOfRow.holds Try.pinned (OpenSpec.ofChange fnExactFracOfSpec)

/-- ITS FALSE NEIGHBOUR: 'it returns false'. Refute it at one input. -/
def fnExactFracOfWrong : ChangeSpec := { name := "fnExactFracOf", fn := fun _ => fun
  | [d1, d2] => { results := [.lit (.bool false)], args := [d1, d2] }
  | _ => none }
def FnExactFracOfWrongFalsely : Prop := fnExactFracOfRow.holds Try.pinned (OpenSpec.ofChange fnExactFracOfWrong)

/- THE SECOND FORM. 'bulk': how many values and letters a reading holds, each counted each time it is reached (what is shared counts as often as it is met; a slice's spare places count too). A statement '..UptoSaid' is the law's where the arguments, and the package variables that the reading takes, are together of bulk at most 1048576: NARROWER than '..Said'. Prove '..Said' where nothing that the law and all that it calls make is longer than what came in: it says more and counts as full. Else prove '..UptoSaid'. A law counts once. -/
mutual
def uptoBulk {H : Type} : DataW H → Nat
  | .lit (.string bytes) => bytes.length + 1
  | .lit _ => 1
  | .nil => 1
  | .ptr d => uptoBulk d + 1
  | .slice elems spare => uptoBulkAll elems + uptoBulkAll spare + 1
  | .agg parts => uptoBulkAll parts + 1
  | .iface _ d => uptoBulk d + 1
  | .map entries => uptoBulkEntries entries + 1
  | .held _ => 1
def uptoBulkAll {H : Type} : List (DataW H) → Nat
  | [] => 0
  | d :: r => uptoBulk d + uptoBulkAll r
def uptoBulkEntries {H : Type} : List (Lit × DataW H) → Nat
  | [] => 0
  | x :: r => uptoBulkEntry x + uptoBulkEntries r
def uptoBulkEntry {H : Type} : Lit × DataW H → Nat
  | (.string bytes, d) => bytes.length + uptoBulk d + 1
  | (_, d) => uptoBulk d + 1
 end
def uptoSmall : (H : Type) → List (DataW H) → Bool := fun _ ds => decide (uptoBulkAll ds ≤ 1048576)
def OpenSpec.upto (s : _root_.Go.ChangeSpec) : _root_.Go.OpenSpec := { _root_.Go.OpenSpec.ofChange s with cond := some uptoSmall }

/-- 'laws.FnExactSigOk', WHERE WHAT IT READS IS OF BULK AT MOST 1048576: true; the input reads as it did. -/
def fnExactSigOkUptoRow : OpenClaim := { program := "ytolkmdelghffdaa", sum := "19923c6db64e4a608570937f8b5b90a050a9f387ab3f80ced9f531d58d11d1ae", func := "loop.example/g00869/laws.FnExactSigOk", spec := "fnExactSigOk", apart := false, narrowed := true }
def FnExactSigOkUptoSaid : Prop := fnExactSigOkUptoRow.holds Try.pinned (OpenSpec.upto fnExactSigOkSpec)

/-- 'laws.FnExactRecordsMany', WHERE WHAT IT READS IS OF BULK AT MOST 1048576: true; the input reads as it did. -/
def fnExactRecordsManyUptoRow : OpenClaim := { program := "ytolkmdelghffdaa", sum := "19923c6db64e4a608570937f8b5b90a050a9f387ab3f80ced9f531d58d11d1ae", func := "loop.example/g00869/laws.FnExactRecordsMany", spec := "fnExactRecordsMany", apart := false, narrowed := true }
def FnExactRecordsManyUptoSaid : Prop := fnExactRecordsManyUptoRow.holds Try.pinned (OpenSpec.upto fnExactRecordsManySpec)

/-- 'laws.FnExactFracOk', WHERE WHAT IT READS IS OF BULK AT MOST 1048576: true; the input reads as it did. -/
def fnExactFracOkUptoRow : OpenClaim := { program := "ytolkmdelghffdaa", sum := "19923c6db64e4a608570937f8b5b90a050a9f387ab3f80ced9f531d58d11d1ae", func := "loop.example/g00869/laws.FnExactFracOk", spec := "fnExactFracOk", apart := false, narrowed := true }
def FnExactFracOkUptoSaid : Prop := fnExactFracOkUptoRow.holds Try.pinned (OpenSpec.upto fnExactFracOkSpec)

/-- 'laws.FnExactFracLess', WHERE WHAT IT READS IS OF BULK AT MOST 1048576: true; the input reads as it did. -/
def fnExactFracLessUptoRow : OpenClaim := { program := "ytolkmdelghffdaa", sum := "19923c6db64e4a608570937f8b5b90a050a9f387ab3f80ced9f531d58d11d1ae", func := "loop.example/g00869/laws.FnExactFracLess", spec := "fnExactFracLess", apart := false, narrowed := true }
def FnExactFracLessUptoSaid : Prop := fnExactFracLessUptoRow.holds Try.pinned (OpenSpec.upto fnExactFracLessSpec)

/-- 'laws.FnExactFracOf', WHERE WHAT IT READS IS OF BULK AT MOST 1048576: true; the input reads as it did. -/
def fnExactFracOfUptoRow : OpenClaim := { program := "ytolkmdelghffdaa", sum := "19923c6db64e4a608570937f8b5b90a050a9f387ab3f80ced9f531d58d11d1ae", func := "loop.example/g00869/laws.FnExactFracOf", spec := "fnExactFracOf", apart := false, narrowed := true }
def FnExactFracOfUptoSaid : Prop := fnExactFracOfUptoRow.holds Try.pinned (OpenSpec.upto fnExactFracOfSpec)

end Rows
end Go.Proofs.Ytolkmdelghffdaa
