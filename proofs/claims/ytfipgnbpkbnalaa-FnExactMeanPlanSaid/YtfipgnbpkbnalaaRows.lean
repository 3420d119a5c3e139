/-
  No cell of these rows narrows 'for every input' (looked for: loops, veiled, ifaces, maps, wideKeys, modest, calm, conditions, laid).
  DERIVED. THE GIVEN ROWS OF THIS SEAT. 7 by the template 'for every input the law returns true; each argument reads behind the call as it read before'; 0 by the template 'total and deterministic' (their statements: YtfipgnbpkbnalaaTotals.lean).
  GIVEN WITH THE SEED: the statements are not yours to turn. If you find one false, say at which input.
  Laid BY PROGRAM, IN A SANDBOX (cutbox-rows.mjs): the forced cells as the released guide's own fill.sh prints them over the translation 1c3a888dc67537d7… (all of the seat's roots in one cut). By AI agents, Wed Nov 11 2026. No macro, syntax, notation, axiom, sorry.
-/
import Derived.Test.YtfipgnbpkbnalaaChecked
import GoSem.Claim
import GoSem.ClaimJoined
import GoSem.ClaimMapViews
import Derived.JoinedTies
import Derived.KernelRfl
namespace Go.Proofs.Ytfipgnbpkbnalaa
/- THE CELL 'sum', in the pinned program and in every row, IS THE sha256 OF THE DUMP (.gsa) THAT YtfipgnbpkbnalaaProg.lean LOADS. Nothing in Lean hashes anything: it is a label: what it is worth is what the hold of that sum in a sandbox is worth. -/
noncomputable def Try.pinned : Pinned := { name := "ytfipgnbpkbnalaa", sum := "1c3a888dc67537d71b3412d6611487f1bafcd94f6720c0b9473d198f2a1133b3", checked := Try.checked }
namespace Rows
def none {H : Type} : Left H := { results := [], args := [] }

/-- 'laws.FnExactMeanOf': WHATEVER THE INPUT: true; the input reads as it did. -/
def fnExactMeanOfSpec : ChangeSpec := { name := "fnExactMeanOf", fn := fun _ => fun
  | [d] => { results := [.lit (.bool true)], args := [d] }
  | _ => none }
def fnExactMeanOfRow : OpenClaim := { program := "ytfipgnbpkbnalaa", sum := "1c3a888dc67537d71b3412d6611487f1bafcd94f6720c0b9473d198f2a1133b3", func := "loop.example/g00869/laws.FnExactMeanOf", spec := "fnExactMeanOf", apart := false }
def FnExactMeanOfSaid : Prop := fnExactMeanOfRow.holds Try.pinned (OpenSpec.ofChange fnExactMeanOfSpec)

/-- ITS FALSE NEIGHBOUR: 'it returns false'. Refute it at one input. -/
def fnExactMeanOfWrong : ChangeSpec := { name := "fnExactMeanOf", fn := fun _ => fun
  | [d] => { results := [.lit (.bool false)], args := [d] }
  | _ => none }
def FnExactMeanOfWrongFalsely : Prop := fnExactMeanOfRow.holds Try.pinned (OpenSpec.ofChange fnExactMeanOfWrong)

/-- 'laws.FnExactAtLeast': WHATEVER THE INPUT: true; the input reads as it did. -/
def fnExactAtLeastSpec : ChangeSpec := { name := "fnExactAtLeast", fn := fun _ => fun
  | [d1, d2, d3] => { results := [.lit (.bool true)], args := [d1, d2, d3] }
  | _ => none }
def fnExactAtLeastRow : OpenClaim := { program := "ytfipgnbpkbnalaa", sum := "1c3a888dc67537d71b3412d6611487f1bafcd94f6720c0b9473d198f2a1133b3", func := "loop.example/g00869/laws.FnExactAtLeast", spec := "fnExactAtLeast", apart := false }
def FnExactAtLeastSaid : Prop := fnExactAtLeastRow.holds Try.pinned (OpenSpec.ofChange fnExactAtLeastSpec)

/-- ITS FALSE NEIGHBOUR: 'it returns false'. Refute it at one input. -/
def fnExactAtLeastWrong : ChangeSpec := { name := "fnExactAtLeast", fn := fun _ => fun
  | [d1, d2, d3] => { results := [.lit (.bool false)], args := [d1, d2, d3] }
  | _ => none }
def FnExactAtLeastWrongFalsely : Prop := fnExactAtLeastRow.holds Try.pinned (OpenSpec.ofChange fnExactAtLeastWrong)

/-- 'laws.FnExactMeanBy': WHATEVER THE INPUT: true; the input reads as it did. -/
def fnExactMeanBySpec : ChangeSpec := { name := "fnExactMeanBy", fn := fun _ => fun
  | [d1, d2] => { results := [.lit (.bool true)], args := [d1, d2] }
  | _ => none }
def fnExactMeanByRow : OpenClaim := { program := "ytfipgnbpkbnalaa", sum := "1c3a888dc67537d71b3412d6611487f1bafcd94f6720c0b9473d198f2a1133b3", func := "loop.example/g00869/laws.FnExactMeanBy", spec := "fnExactMeanBy", apart := false }
def FnExactMeanBySaid : Prop := fnExactMeanByRow.holds Try.pinned (OpenSpec.ofChange fnExactMeanBySpec)

/-- ITS FALSE NEIGHBOUR: 'it returns false'. Refute it at one input. -/
def fnExactMeanByWrong : ChangeSpec := { name := "fnExactMeanBy", fn := fun _ => fun
  | [d1, d2] => { results := [.lit (.bool false)], args := [d1, d2] }
  | _ => none }
def FnExactMeanByWrongFalsely : Prop := fnExactMeanByRow.holds Try.pinned (OpenSpec.ofChange fnExactMeanByWrong)

/-- 'laws.FnExactMeanPlan': WHATEVER THE INPUT: true; the input reads as it did. -/
def fnExactMeanPlanSpec : ChangeSpec := { name := "fnExactMeanPlan", fn := fun _ => fun
  | [d] => { results := [.lit (.bool true)], args := [d] }
  | _ => none }
def fnExactMeanPlanRow : OpenClaim := { program := "ytfipgnbpkbnalaa", sum := "1c3a888dc67537d71b3412d6611487f1bafcd94f6720c0b9473d198f2a1133b3", func := "loop.example/g00869/laws.FnExactMeanPlan", spec := "fnExactMeanPlan", apart := false }
def FnExactMeanPlanSaid : Prop := fnExactMeanPlanRow.holds Try.pinned (OpenSpec.ofChange fnExactMeanPlanSpec)

/-- ITS FALSE NEIGHBOUR: 'it returns false'. Refute it at one input. -/
def fnExactMeanPlanWrong : ChangeSpec := { name := "fnExactMeanPlan", fn := fun _ => fun
  | [d] => { results := [.lit (.bool false)], args := [d] }
  | _ => none }
def FnExactMeanPlanWrongFalsely : Prop := fnExactMeanPlanRow.holds Try.pinned (OpenSpec.ofChange fnExactMeanPlanWrong)

/-- 'laws.FnExactCreditsFor': WHATEVER THE INPUT: true; the input reads as it did. -/
def fnExactCreditsForSpec : ChangeSpec := { name := "fnExactCreditsFor", fn := fun _ => fun
  | [d1, d2] => { results := [.lit (.bool true)], args := [d1, d2] }
  | _ => none }
def fnExactCreditsForRow : OpenClaim := { program := "ytfipgnbpkbnalaa", sum := "1c3a888dc67537d71b3412d6611487f1bafcd94f6720c0b9473d198f2a1133b3", func := "loop.example/g00869/laws.FnExactCreditsFor", spec := "fnExactCreditsFor", apart := false }
def FnExactCreditsForSaid : Prop := fnExactCreditsForRow.holds Try.pinned (OpenSpec.ofChange fnExactCreditsForSpec)

/-- ITS FALSE NEIGHBOUR: 'it returns false'. Refute it at one input. -/
def fnExactCreditsForWrong : ChangeSpec := { name := "fnExactCreditsFor", fn := fun _ => fun
  | [d1, d2] => { results := [.lit (.bool false)], args := [d1, d2] }
  | _ => none }
def FnExactCreditsForWrongFalsely : Prop := fnExactCreditsForRow.holds Try.pinned (OpenSpec.ofChange fnExactCreditsForWrong)

/-- 'laws.FnExactMeanWon': WHATEVER THE INPUT: true; the input reads as it did. -/
def fnExactMeanWonSpec : ChangeSpec := { name := "fnExactMeanWon", fn := fun _ => fun
  | [d] => { results := [.lit (.bool true)], args := [d] }
  | _ => none }
def fnExactMeanWonRow : OpenClaim := { program := "ytfipgnbpkbnalaa", sum := "1c3a888dc67537d71b3412d6611487f1bafcd94f6720c0b9473d198f2a1133b3", func := "loop.example/g00869/laws.FnExactMeanWon", spec := "fnExactMeanWon", apart := false }
def FnExactMeanWonSaid : Prop := fnExactMeanWonRow.holds Try.pinned (OpenSpec.ofChange fnExactMeanWonSpec)

/-- ITS FALSE NEIGHBOUR: 'it returns false'. Refute it at one input. -/
def fnExactMeanWonWrong : ChangeSpec := { name := "fnExactMeanWon", fn := fun _ => fun
  | [d] => { results := [.lit (.bool false)], args := [d] }
  | _ => none }
def FnExactMeanWonWrongFalsely : Prop := fnExactMeanWonRow.holds Try.pinned (OpenSpec.ofChange fnExactMeanWonWrong)

/-- 'laws.FnExactBridgeMeans': WHATEVER THE INPUT: true; the input reads as it did. -/
def fnExactBridgeMeansSpec : ChangeSpec := { name := "fnExactBridgeMeans", fn := fun _ => fun
  | [d] => { results := [.lit (.bool true)], args := [d] }
  | _ => none }
def fnExactBridgeMeansRow : OpenClaim := { program := "ytfipgnbpkbnalaa", sum := "1c3a888dc67537d71b3412d6611487f1bafcd94f6720c0b9473d198f2a1133b3", func := "loop.example/g00869/laws.FnExactBridgeMeans", spec := "fnExactBridgeMeans", apart := false }
def FnExactBridgeMeansSaid : Prop := fnExactBridgeMeansRow.holds Try.pinned (OpenSpec.ofChange fnExactBridgeMeansSpec)

/-- ITS FALSE NEIGHBOUR: 'it returns false'. Refute it at one input. -/
def fnExactBridgeMeansWrong : ChangeSpec := { name := "fnExactBridgeMeans", fn := fun _ => fun
  | [d] => { results := [.lit (.bool false)], args := [d] }
  | _ => none }
def FnExactBridgeMeansWrongFalsely : Prop := fnExactBridgeMeansRow.holds Try.pinned (OpenSpec.ofChange fnExactBridgeMeansWrong)

/- THE SECOND FORM. 'bulk': how many values and letters a reading holds, each counted each time it is reached (what is shared counts as often as it is met; a slice's spare places count too). A statement '..UptoSaid' is the law's where the arguments, and the package variables that the reading takes, are together of bulk at most 1048576: NARROWER than '..Said'. Prove '..Said' where nothing that the law and all that it calls make is longer than what came in: it says more and counts as full. Else prove '..UptoSaid'. A law counts once. -/
mutual
def uptoBulk {H : Type} : DataW H → Nat
  | .lit (.string bytes) => bytes.length + 1
  | .lit _ => 1
  | .nil => 1
  | .ptr d => uptoBulk d + 1
  | .slice elems spare => uptoBulkAll elems + uptoBulkAll spare + 1
  | .agg parts => uptoBulkAll parts + 1
  | .iface _ d => uptoBulk d + 1
  | .map entries => uptoBulkEntries entries + 1
  | .held _ => 1
def uptoBulkAll {H : Type} : List (DataW H) → Nat
  | [] => 0
  | d :: r => uptoBulk d + uptoBulkAll r
def uptoBulkEntries {H : Type} : List (Lit × DataW H) → Nat
  | [] => 0
  | x :: r => uptoBulkEntry x + uptoBulkEntries r
def uptoBulkEntry {H : Type} : Lit × DataW H → Nat
  | (.string bytes, d) => bytes.length + uptoBulk d + 1
  | (_, d) => uptoBulk d + 1
 end
def uptoSmall : (H : Type) → List (DataW H) → Bool := fun _ ds => decide (uptoBulkAll ds ≤ 1048576)
def OpenSpec.upto (s : _root_.Go.ChangeSpec) : _root_.Go.OpenSpec := { _root_.Go.OpenSpec.ofChange s with cond := some uptoSmall }

/-- 'laws.FnExactMeanOf', WHERE WHAT IT READS IS OF BULK AT MOST 1048576: true; the input reads as it did. -/
def fnExactMeanOfUptoRow : OpenClaim := { program := "ytfipgnbpkbnalaa", sum := "1c3a888dc67537d71b3412d6611487f1bafcd94f6720c0b9473d198f2a1133b3", func := "loop.example/g00869/laws.FnExactMeanOf", spec := "fnExactMeanOf", apart := false, narrowed := true }
def FnExactMeanOfUptoSaid : Prop := fnExactMeanOfUptoRow.holds Try.pinned (OpenSpec.upto fnExactMeanOfSpec)

/-- 'laws.FnExactAtLeast', WHERE WHAT IT READS IS OF BULK AT MOST 1048576: true; the input reads as it did. -/
def fnExactAtLeastUptoRow : OpenClaim := { program := "ytfipgnbpkbnalaa", sum := "1c3a888dc67537d71b3412d6611487f1bafcd94f6720c0b9473d198f2a1133b3", func := "loop.example/g00869/laws.FnExactAtLeast", spec := "fnExactAtLeast", apart := false, narrowed := true }
def FnExactAtLeastUptoSaid : Prop := fnExactAtLeastUptoRow.holds Try.pinned (OpenSpec.upto fnExactAtLeastSpec)

/-- 'laws.FnExactMeanBy', WHERE WHAT IT READS IS OF BULK AT MOST 1048576: true; the input reads as it did. -/
def fnExactMeanByUptoRow : OpenClaim := { program := "ytfipgnbpkbnalaa", sum := "1c3a888dc67537d71b3412d6611487f1bafcd94f6720c0b9473d198f2a1133b3", func := "loop.example/g00869/laws.FnExactMeanBy", spec := "fnExactMeanBy", apart := false, narrowed := true }
def FnExactMeanByUptoSaid : Prop := fnExactMeanByUptoRow.holds Try.pinned (OpenSpec.upto fnExactMeanBySpec)

/-- 'laws.FnExactMeanPlan', WHERE WHAT IT READS IS OF BULK AT MOST 1048576: true; the input reads as it did. -/
def fnExactMeanPlanUptoRow : OpenClaim := { program := "ytfipgnbpkbnalaa", sum := "1c3a888dc67537d71b3412d6611487f1bafcd94f6720c0b9473d198f2a1133b3", func := "loop.example/g00869/laws.FnExactMeanPlan", spec := "fnExactMeanPlan", apart := false, narrowed := true }
def FnExactMeanPlanUptoSaid : Prop := fnExactMeanPlanUptoRow.holds Try.pinned (OpenSpec.upto fnExactMeanPlanSpec)

/-- 'laws.FnExactCreditsFor', WHERE WHAT IT READS IS OF BULK AT MOST 1048576: true; the input reads as it did. -/
def fnExactCreditsForUptoRow : OpenClaim := { program := "ytfipgnbpkbnalaa", sum := "1c3a888dc67537d71b3412d6611487f1bafcd94f6720c0b9473d198f2a1133b3", func := "loop.example/g00869/laws.FnExactCreditsFor", spec := "fnExactCreditsFor", apart := false, narrowed := true }
def FnExactCreditsForUptoSaid : Prop := fnExactCreditsForUptoRow.holds Try.pinned (OpenSpec.upto fnExactCreditsForSpec)

/-- 'laws.FnExactMeanWon', WHERE WHAT IT READS IS OF BULK AT MOST 1048576: true; the input reads as it did. -/
def fnExactMeanWonUptoRow : OpenClaim := { program := "ytfipgnbpkbnalaa", sum := "1c3a888dc67537d71b3412d6611487f1bafcd94f6720c0b9473d198f2a1133b3", func := "loop.example/g00869/laws.FnExactMeanWon", spec := "fnExactMeanWon", apart := false, narrowed := true }
def FnExactMeanWonUptoSaid : Prop := fnExactMeanWonUptoRow.holds Try.pinned (OpenSpec.upto fnExactMeanWonSpec)

/-- 'laws.FnExactBridgeMeans', WHERE WHAT IT READS IS OF BULK AT MOST 1048576: true; the input reads as it did. -/
def fnExactBridgeMeansUptoRow : OpenClaim := { program := "ytfipgnbpkbnalaa", sum := "1c3a888dc67537d71b3412d6611487f1bafcd94f6720c0b9473d198f2a1133b3", func := "loop.example/g00869/laws.FnExactBridgeMeans", spec := "fnExactBridgeMeans", apart := false, narrowed := true }
def FnExactBridgeMeansUptoSaid : Prop := fnExactBridgeMeansUptoRow.holds Try.pinned (OpenSpec.upto fnExactBridgeMeansSpec)

end Rows
end Go.Proofs.Ytfipgnbpkbnalaa
