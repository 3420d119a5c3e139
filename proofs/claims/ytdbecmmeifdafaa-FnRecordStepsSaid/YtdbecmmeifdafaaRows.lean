/-
  No cell of these rows narrows 'for every input' (looked for: loops, veiled, ifaces, maps, wideKeys, modest, calm, conditions, laid).
  DERIVED. THE GIVEN ROWS OF THIS SEAT. 7 by the template 'for every input the law returns true; each argument reads behind the call as it read before'; 0 by the template 'total and deterministic' (their statements: YtdbecmmeifdafaaTotals.lean).
  GIVEN WITH THE SEED: the statements are not yours to turn. If you find one false, say at which input.
  Laid BY PROGRAM, IN A SANDBOX (cutbox-rows.mjs): the forced cells as the released guide's own fill.sh prints them over the translation e4b646d6a50f177c… (all of the seat's roots in one cut). By AI agents, Wed Nov 11 2026. No macro, syntax, notation, axiom, sorry.
-/
import Derived.Test.YtdbecmmeifdafaaChecked
import GoSem.Claim
import GoSem.ClaimJoined
import GoSem.ClaimMapViews
import Derived.JoinedTies
import Derived.KernelRfl
namespace Go.Proofs.Ytdbecmmeifdafaa
/- THE CELL 'sum', in the pinned program and in every row, IS THE sha256 OF THE DUMP (.gsa) THAT YtdbecmmeifdafaaProg.lean LOADS. Nothing in Lean hashes anything: it is a label: what it is worth is what the hold of that sum in a sandbox is worth. -/
noncomputable def Try.pinned : Pinned := { name := "ytdbecmmeifdafaa", sum := "e4b646d6a50f177c43c5f7ba7fe37bec6c6a6b534993b8e7209684a74dfc7566", checked := Try.checked }
namespace Rows
def none {H : Type} : Left H := { results := [], args := [] }

/-- 'laws.FnCreditLeast': WHATEVER THE INPUT: true; the input reads as it did. -/
def fnCreditLeastSpec : ChangeSpec := { name := "fnCreditLeast", fn := fun _ => fun
  | [d] => { results := [.lit (.bool true)], args := [d] }
  | _ => none }
def fnCreditLeastRow : OpenClaim := { program := "ytdbecmmeifdafaa", sum := "e4b646d6a50f177c43c5f7ba7fe37bec6c6a6b534993b8e7209684a74dfc7566", func := "loop.example/g00869/laws.FnCreditLeast", spec := "fnCreditLeast", apart := false }
def FnCreditLeastSaid : Prop := fnCreditLeastRow.holds Try.pinned (OpenSpec.ofChange fnCreditLeastSpec)

/-- ITS FALSE NEIGHBOUR: 'it returns false'. Refute it at one input. -/
def fnCreditLeastWrong : ChangeSpec := { name := "fnCreditLeast", fn := fun _ => fun
  | [d] => { results := [.lit (.bool false)], args := [d] }
  | _ => none }
def FnCreditLeastWrongFalsely : Prop := fnCreditLeastRow.holds Try.pinned (OpenSpec.ofChange fnCreditLeastWrong)

/-- 'laws.FnCredit': WHATEVER THE INPUT: true; the input reads as it did. -/
def fnCreditSpec : ChangeSpec := { name := "fnCredit", fn := fun _ => fun
  | [d] => { results := [.lit (.bool true)], args := [d] }
  | _ => none }
def fnCreditRow : OpenClaim := { program := "ytdbecmmeifdafaa", sum := "e4b646d6a50f177c43c5f7ba7fe37bec6c6a6b534993b8e7209684a74dfc7566", func := "loop.example/g00869/laws.FnCredit", spec := "fnCredit", apart := false }
def FnCreditSaid : Prop := fnCreditRow.holds Try.pinned (OpenSpec.ofChange fnCreditSpec)

/-- ITS FALSE NEIGHBOUR: 'it returns false'. Refute it at one input. -/
def fnCreditWrong : ChangeSpec := { name := "fnCredit", fn := fun _ => fun
  | [d] => { results := [.lit (.bool false)], args := [d] }
  | _ => none }
def FnCreditWrongFalsely : Prop := fnCreditRow.holds Try.pinned (OpenSpec.ofChange fnCreditWrong)

/-- 'laws.FnMeanBy': WHATEVER THE INPUT: true; the input reads as it did. -/
def fnMeanBySpec : ChangeSpec := { name := "fnMeanBy", fn := fun _ => fun
  | [d] => { results := [.lit (.bool true)], args := [d] }
  | _ => none }
def fnMeanByRow : OpenClaim := { program := "ytdbecmmeifdafaa", sum := "e4b646d6a50f177c43c5f7ba7fe37bec6c6a6b534993b8e7209684a74dfc7566", func := "loop.example/g00869/laws.FnMeanBy", spec := "fnMeanBy", apart := false }
def FnMeanBySaid : Prop := fnMeanByRow.holds Try.pinned (OpenSpec.ofChange fnMeanBySpec)

/-- ITS FALSE NEIGHBOUR: 'it returns false'. Refute it at one input. -/
def fnMeanByWrong : ChangeSpec := { name := "fnMeanBy", fn := fun _ => fun
  | [d] => { results := [.lit (.bool false)], args := [d] }
  | _ => none }
def FnMeanByWrongFalsely : Prop := fnMeanByRow.holds Try.pinned (OpenSpec.ofChange fnMeanByWrong)

/-- 'laws.FnMean': WHATEVER THE INPUT: true; the input reads as it did. -/
def fnMeanSpec : ChangeSpec := { name := "fnMean", fn := fun _ => fun
  | [d] => { results := [.lit (.bool true)], args := [d] }
  | _ => none }
def fnMeanRow : OpenClaim := { program := "ytdbecmmeifdafaa", sum := "e4b646d6a50f177c43c5f7ba7fe37bec6c6a6b534993b8e7209684a74dfc7566", func := "loop.example/g00869/laws.FnMean", spec := "fnMean", apart := false }
def FnMeanSaid : Prop := fnMeanRow.holds Try.pinned (OpenSpec.ofChange fnMeanSpec)

/-- ITS FALSE NEIGHBOUR: 'it returns false'. Refute it at one input. -/
def fnMeanWrong : ChangeSpec := { name := "fnMean", fn := fun _ => fun
  | [d] => { results := [.lit (.bool false)], args := [d] }
  | _ => none }
def FnMeanWrongFalsely : Prop := fnMeanRow.holds Try.pinned (OpenSpec.ofChange fnMeanWrong)

/-- 'laws.FnRecordSteps': WHATEVER THE INPUT: true; the input reads as it did. -/
def fnRecordStepsSpec : ChangeSpec := { name := "fnRecordSteps", fn := fun _ => fun
  | [d] => { results := [.lit (.bool true)], args := [d] }
  | _ => none }
def fnRecordStepsRow : OpenClaim := { program := "ytdbecmmeifdafaa", sum := "e4b646d6a50f177c43c5f7ba7fe37bec6c6a6b534993b8e7209684a74dfc7566", func := "loop.example/g00869/laws.FnRecordSteps", spec := "fnRecordSteps", apart := false }
def FnRecordStepsSaid : Prop := fnRecordStepsRow.holds Try.pinned (OpenSpec.ofChange fnRecordStepsSpec)

/-- ITS FALSE NEIGHBOUR: 'it returns false'. Refute it at one input. -/
def fnRecordStepsWrong : ChangeSpec := { name := "fnRecordSteps", fn := fun _ => fun
  | [d] => { results := [.lit (.bool false)], args := [d] }
  | _ => none }
def FnRecordStepsWrongFalsely : Prop := fnRecordStepsRow.holds Try.pinned (OpenSpec.ofChange fnRecordStepsWrong)

/-- 'laws.FnBridgeMeans': WHATEVER THE INPUT: true; the input reads as it did. -/
def fnBridgeMeansSpec : ChangeSpec := { name := "fnBridgeMeans", fn := fun _ => fun
  | [d] => { results := [.lit (.bool true)], args := [d] }
  | _ => none }
def fnBridgeMeansRow : OpenClaim := { program := "ytdbecmmeifdafaa", sum := "e4b646d6a50f177c43c5f7ba7fe37bec6c6a6b534993b8e7209684a74dfc7566", func := "loop.example/g00869/laws.FnBridgeMeans", spec := "fnBridgeMeans", recurses := true, apart := false }
def FnBridgeMeansSaid : Prop := fnBridgeMeansRow.holds Try.pinned (OpenSpec.ofChange fnBridgeMeansSpec)

/-- ITS FALSE NEIGHBOUR: 'it returns false'. Refute it at one input. -/
def fnBridgeMeansWrong : ChangeSpec := { name := "fnBridgeMeans", fn := fun _ => fun
  | [d] => { results := [.lit (.bool false)], args := [d] }
  | _ => none }
def FnBridgeMeansWrongFalsely : Prop := fnBridgeMeansRow.holds Try.pinned (OpenSpec.ofChange fnBridgeMeansWrong)

/-- 'laws.FnBridge': WHATEVER THE INPUT: true; the input reads as it did. -/
def fnBridgeSpec : ChangeSpec := { name := "fnBridge", fn := fun _ => fun
  | [d] => { results := [.lit (.bool true)], args := [d] }
  | _ => none }
def fnBridgeRow : OpenClaim := { program := "ytdbecmmeifdafaa", sum := "e4b646d6a50f177c43c5f7ba7fe37bec6c6a6b534993b8e7209684a74dfc7566", func := "loop.example/g00869/laws.FnBridge", spec := "fnBridge", recurses := true, apart := false }
def FnBridgeSaid : Prop := fnBridgeRow.holds Try.pinned (OpenSpec.ofChange fnBridgeSpec)

/-- ITS FALSE NEIGHBOUR: 'it returns false'. Refute it at one input. -/
def fnBridgeWrong : ChangeSpec := { name := "fnBridge", fn := fun _ => fun
  | [d] => { results := [.lit (.bool false)], args := [d] }
  | _ => none }
def FnBridgeWrongFalsely : Prop := fnBridgeRow.holds Try.pinned (OpenSpec.ofChange fnBridgeWrong)

/- THE SECOND FORM. 'bulk': how many values and letters a reading holds, each counted each time it is reached (what is shared counts as often as it is met; a slice's spare places count too). A statement '..UptoSaid' is the law's where the arguments, and the package variables that the reading takes, are together of bulk at most 1048576: NARROWER than '..Said'. Prove '..Said' where nothing that the law and all that it calls make is longer than what came in: it says more and counts as full. Else prove '..UptoSaid'. A law counts once. -/
mutual
def uptoBulk {H : Type} : DataW H → Nat
  | .lit (.string bytes) => bytes.length + 1
  | .lit _ => 1
  | .nil => 1
  | .ptr d => uptoBulk d + 1
  | .slice elems spare => uptoBulkAll elems + uptoBulkAll spare + 1
  | .agg parts => uptoBulkAll parts + 1
  | .iface _ d => uptoBulk d + 1
  | .map entries => uptoBulkEntries entries + 1
  | .held _ => 1
def uptoBulkAll {H : Type} : List (DataW H) → Nat
  | [] => 0
  | d :: r => uptoBulk d + uptoBulkAll r
def uptoBulkEntries {H : Type} : List (Lit × DataW H) → Nat
  | [] => 0
  | x :: r => uptoBulkEntry x + uptoBulkEntries r
def uptoBulkEntry {H : Type} : Lit × DataW H → Nat
  | (.string bytes, d) => bytes.length + uptoBulk d + 1
  | (_, d) => uptoBulk d + 1
 end
def uptoSmall : (H : Type) → List (DataW H) → Bool := fun _ ds => decide (uptoBulkAll ds ≤ 1048576)
def OpenSpec.upto (s : _root_.Go.ChangeSpec) : _root_.Go.OpenSpec := { _root_.Go.OpenSpec.ofChange s with cond := some uptoSmall }

/-- 'laws.FnCreditLeast', WHERE WHAT IT READS IS OF BULK AT MOST 1048576: true; the input reads as it did. -/
def fnCreditLeastUptoRow : OpenClaim := { program := "ytdbecmmeifdafaa", sum := "e4b646d6a50f177c43c5f7ba7fe37bec6c6a6b534993b8e7209684a74dfc7566", func := "loop.example/g00869/laws.FnCreditLeast", spec := "fnCreditLeast", apart := false, narrowed := true }
def FnCreditLeastUptoSaid : Prop := fnCreditLeastUptoRow.holds Try.pinned (OpenSpec.upto fnCreditLeastSpec)

/-- 'laws.FnCredit', WHERE WHAT IT READS IS OF BULK AT MOST 1048576: true; the input reads as it did. -/
def fnCreditUptoRow : OpenClaim := { program := "ytdbecmmeifdafaa", sum := "e4b646d6a50f177c43c5f7ba7fe37bec6c6a6b534993b8e7209684a74dfc7566", func := "loop.example/g00869/laws.FnCredit", spec := "fnCredit", apart := false, narrowed := true }
def FnCreditUptoSaid : Prop := fnCreditUptoRow.holds Try.pinned (OpenSpec.upto fnCreditSpec)

/-- 'laws.FnMeanBy', WHERE WHAT IT READS IS OF BULK AT MOST 1048576: true; the input reads as it did. -/
def fnMeanByUptoRow : OpenClaim := { program := "ytdbecmmeifdafaa", sum := "e4b646d6a50f177c43c5f7ba7fe37bec6c6a6b534993b8e7209684a74dfc7566", func := "loop.example/g00869/laws.FnMeanBy", spec := "fnMeanBy", apart := false, narrowed := true }
def FnMeanByUptoSaid : Prop := fnMeanByUptoRow.holds Try.pinned (OpenSpec.upto fnMeanBySpec)

/-- 'laws.FnMean', WHERE WHAT IT READS IS OF BULK AT MOST 1048576: true; the input reads as it did. -/
def fnMeanUptoRow : OpenClaim := { program := "ytdbecmmeifdafaa", sum := "e4b646d6a50f177c43c5f7ba7fe37bec6c6a6b534993b8e7209684a74dfc7566", func := "loop.example/g00869/laws.FnMean", spec := "fnMean", apart := false, narrowed := true }
def FnMeanUptoSaid : Prop := fnMeanUptoRow.holds Try.pinned (OpenSpec.upto fnMeanSpec)

/-- 'laws.FnRecordSteps', WHERE WHAT IT READS IS OF BULK AT MOST 1048576: true; the input reads as it did. -/
def fnRecordStepsUptoRow : OpenClaim := { program := "ytdbecmmeifdafaa", sum := "e4b646d6a50f177c43c5f7ba7fe37bec6c6a6b534993b8e7209684a74dfc7566", func := "loop.example/g00869/laws.FnRecordSteps", spec := "fnRecordSteps", apart := false, narrowed := true }
def FnRecordStepsUptoSaid : Prop := fnRecordStepsUptoRow.holds Try.pinned (OpenSpec.upto fnRecordStepsSpec)

/-- 'laws.FnBridgeMeans', WHERE WHAT IT READS IS OF BULK AT MOST 1048576: true; the input reads as it did. -/
def fnBridgeMeansUptoRow : OpenClaim := { program := "ytdbecmmeifdafaa", sum := "e4b646d6a50f177c43c5f7ba7fe37bec6c6a6b534993b8e7209684a74dfc7566", func := "loop.example/g00869/laws.FnBridgeMeans", spec := "fnBridgeMeans", recurses := true, apart := false, narrowed := true }
def FnBridgeMeansUptoSaid : Prop := fnBridgeMeansUptoRow.holds Try.pinned (OpenSpec.upto fnBridgeMeansSpec)

/-- 'laws.FnBridge', WHERE WHAT IT READS IS OF BULK AT MOST 1048576: true; the input reads as it did. -/
def fnBridgeUptoRow : OpenClaim := { program := "ytdbecmmeifdafaa", sum := "e4b646d6a50f177c43c5f7ba7fe37bec6c6a6b534993b8e7209684a74dfc7566", func := "loop.example/g00869/laws.FnBridge", spec := "fnBridge", recurses := true, apart := false, narrowed := true }
def FnBridgeUptoSaid : Prop := fnBridgeUptoRow.holds Try.pinned (OpenSpec.upto fnBridgeSpec)

end Rows
end Go.Proofs.Ytdbecmmeifdafaa
