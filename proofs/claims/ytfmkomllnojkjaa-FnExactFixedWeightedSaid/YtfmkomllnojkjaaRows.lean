/-
  No cell of these rows narrows 'for every input' (looked for: loops, veiled, ifaces, maps, wideKeys, modest, calm, conditions, laid).
  DERIVED. THE GIVEN ROWS OF THIS SEAT. 12 by the template 'for every input the law returns true; each argument reads behind the call as it read before'; 0 by the template 'total and deterministic' (their statements: YtfmkomllnojkjaaTotals.lean).
  GIVEN WITH THE SEED: the statements are not yours to turn. If you find one false, say at which input.
  Laid BY PROGRAM, IN A SANDBOX (cutbox-rows.mjs): the forced cells as the released guide's own fill.sh prints them over the translation 9c18871897933877… (all of the seat's roots in one cut). By AI agents, Wed Nov 11 2026. No macro, syntax, notation, axiom, sorry.
-/
import Derived.Test.YtfmkomllnojkjaaChecked
import GoSem.Claim
import GoSem.ClaimJoined
import GoSem.ClaimMapViews
import Derived.JoinedTies
import Derived.KernelRfl
namespace Go.Proofs.Ytfmkomllnojkjaa
/- THE CELL 'sum', in the pinned program and in every row, IS THE sha256 OF THE DUMP (.gsa) THAT YtfmkomllnojkjaaProg.lean LOADS. Nothing in Lean hashes anything: it is a label: what it is worth is what the hold of that sum in a sandbox is worth. -/
noncomputable def Try.pinned : Pinned := { name := "ytfmkomllnojkjaa", sum := "9c18871897933877500ac249956c47347bee79ddeb0eabceafd2b29a1c6e5cd0", checked := Try.checked }
namespace Rows
def none {H : Type} : Left H := { results := [], args := [] }

/-- 'laws.FnExactWeightedOk': WHATEVER THE INPUT: true; the input reads as it did. -/
def fnExactWeightedOkSpec : ChangeSpec := { name := "fnExactWeightedOk", fn := fun _ => fun
  | [d] => { results := [.lit (.bool true)], args := [d] }
  | _ => none }
def fnExactWeightedOkRow : OpenClaim := { program := "ytfmkomllnojkjaa", sum := "9c18871897933877500ac249956c47347bee79ddeb0eabceafd2b29a1c6e5cd0", func := "loop.example/g00869/laws.FnExactWeightedOk", spec := "fnExactWeightedOk", apart := false }
def FnExactWeightedOkSaid : Prop := fnExactWeightedOkRow.holds Try.pinned (OpenSpec.ofChange fnExactWeightedOkSpec)

/-- ITS FALSE NEIGHBOUR: 'it returns false'. Refute it at one input. -/
def fnExactWeightedOkWrong : ChangeSpec := { name := "fnExactWeightedOk", fn := fun _ => fun
  | [d] => { results := [.lit (.bool false)], args := [d] }
  | _ => none }
def FnExactWeightedOkWrongFalsely : Prop := fnExactWeightedOkRow.holds Try.pinned (OpenSpec.ofChange fnExactWeightedOkWrong)

/-- 'laws.FnExactCostOf': WHATEVER THE INPUT: true; the input reads as it did. -/
def fnExactCostOfSpec : ChangeSpec := { name := "fnExactCostOf", fn := fun _ => fun
  | [d1, d2, d3] => { results := [.lit (.bool true)], args := [d1, d2, d3] }
  | _ => none }
def fnExactCostOfRow : OpenClaim := { program := "ytfmkomllnojkjaa", sum := "9c18871897933877500ac249956c47347bee79ddeb0eabceafd2b29a1c6e5cd0", func := "loop.example/g00869/laws.FnExactCostOf", spec := "fnExactCostOf", apart := false }
def FnExactCostOfSaid : Prop := fnExactCostOfRow.holds Try.pinned (OpenSpec.ofChange fnExactCostOfSpec)

/-- ITS FALSE NEIGHBOUR: 'it returns false'. Refute it at one input. -/
def fnExactCostOfWrong : ChangeSpec := { name := "fnExactCostOf", fn := fun _ => fun
  | [d1, d2, d3] => { results := [.lit (.bool false)], args := [d1, d2, d3] }
  | _ => none }
def FnExactCostOfWrongFalsely : Prop := fnExactCostOfRow.holds Try.pinned (OpenSpec.ofChange fnExactCostOfWrong)

/-- 'laws.FnExactCreditBound': WHATEVER THE INPUT: true; the input reads as it did. -/
def fnExactCreditBoundSpec : ChangeSpec := { name := "fnExactCreditBound", fn := fun _ => fun
  | [d] => { results := [.lit (.bool true)], args := [d] }
  | _ => none }
def fnExactCreditBoundRow : OpenClaim := { program := "ytfmkomllnojkjaa", sum := "9c18871897933877500ac249956c47347bee79ddeb0eabceafd2b29a1c6e5cd0", func := "loop.example/g00869/laws.FnExactCreditBound", spec := "fnExactCreditBound", apart := false }
def FnExactCreditBoundSaid : Prop := fnExactCreditBoundRow.holds Try.pinned (OpenSpec.ofChange fnExactCreditBoundSpec)

/-- ITS FALSE NEIGHBOUR: 'it returns false'. Refute it at one input. -/
def fnExactCreditBoundWrong : ChangeSpec := { name := "fnExactCreditBound", fn := fun _ => fun
  | [d] => { results := [.lit (.bool false)], args := [d] }
  | _ => none }
def FnExactCreditBoundWrongFalsely : Prop := fnExactCreditBoundRow.holds Try.pinned (OpenSpec.ofChange fnExactCreditBoundWrong)

/-- 'laws.FnExactLoopSum': WHATEVER THE INPUT: true; the input reads as it did. -/
def fnExactLoopSumSpec : ChangeSpec := { name := "fnExactLoopSum", fn := fun _ => fun
  | [d1, d2] => { results := [.lit (.bool true)], args := [d1, d2] }
  | _ => none }
def fnExactLoopSumRow : OpenClaim := { program := "ytfmkomllnojkjaa", sum := "9c18871897933877500ac249956c47347bee79ddeb0eabceafd2b29a1c6e5cd0", func := "loop.example/g00869/laws.FnExactLoopSum", spec := "fnExactLoopSum", apart := false }
def FnExactLoopSumSaid : Prop := fnExactLoopSumRow.holds Try.pinned (OpenSpec.ofChange fnExactLoopSumSpec)

/-- ITS FALSE NEIGHBOUR: 'it returns false'. Refute it at one input. -/
def fnExactLoopSumWrong : ChangeSpec := { name := "fnExactLoopSum", fn := fun _ => fun
  | [d1, d2] => { results := [.lit (.bool false)], args := [d1, d2] }
  | _ => none }
def FnExactLoopSumWrongFalsely : Prop := fnExactLoopSumRow.holds Try.pinned (OpenSpec.ofChange fnExactLoopSumWrong)

/-- 'laws.FnExactDualOf': WHATEVER THE INPUT: true; the input reads as it did. -/
def fnExactDualOfSpec : ChangeSpec := { name := "fnExactDualOf", fn := fun _ => fun
  | [d] => { results := [.lit (.bool true)], args := [d] }
  | _ => none }
def fnExactDualOfRow : OpenClaim := { program := "ytfmkomllnojkjaa", sum := "9c18871897933877500ac249956c47347bee79ddeb0eabceafd2b29a1c6e5cd0", func := "loop.example/g00869/laws.FnExactDualOf", spec := "fnExactDualOf", apart := false }
def FnExactDualOfSaid : Prop := fnExactDualOfRow.holds Try.pinned (OpenSpec.ofChange fnExactDualOfSpec)

/-- ITS FALSE NEIGHBOUR: 'it returns false'. Refute it at one input. -/
def fnExactDualOfWrong : ChangeSpec := { name := "fnExactDualOf", fn := fun _ => fun
  | [d] => { results := [.lit (.bool false)], args := [d] }
  | _ => none }
def FnExactDualOfWrongFalsely : Prop := fnExactDualOfRow.holds Try.pinned (OpenSpec.ofChange fnExactDualOfWrong)

/-- 'laws.FnExactLassoCredit': WHATEVER THE INPUT: true; the input reads as it did. -/
def fnExactLassoCreditSpec : ChangeSpec := { name := "fnExactLassoCredit", fn := fun _ => fun
  | [d1, d2] => { results := [.lit (.bool true)], args := [d1, d2] }
  | _ => none }
def fnExactLassoCreditRow : OpenClaim := { program := "ytfmkomllnojkjaa", sum := "9c18871897933877500ac249956c47347bee79ddeb0eabceafd2b29a1c6e5cd0", func := "loop.example/g00869/laws.FnExactLassoCredit", spec := "fnExactLassoCredit", apart := false }
def FnExactLassoCreditSaid : Prop := fnExactLassoCreditRow.holds Try.pinned (OpenSpec.ofChange fnExactLassoCreditSpec)

/-- ITS FALSE NEIGHBOUR: 'it returns false'. Refute it at one input. -/
def fnExactLassoCreditWrong : ChangeSpec := { name := "fnExactLassoCredit", fn := fun _ => fun
  | [d1, d2] => { results := [.lit (.bool false)], args := [d1, d2] }
  | _ => none }
def FnExactLassoCreditWrongFalsely : Prop := fnExactLassoCreditRow.holds Try.pinned (OpenSpec.ofChange fnExactLassoCreditWrong)

/-- 'laws.FnExactCreditOf': WHATEVER THE INPUT: true; the input reads as it did. -/
def fnExactCreditOfSpec : ChangeSpec := { name := "fnExactCreditOf", fn := fun _ => fun
  | [d] => { results := [.lit (.bool true)], args := [d] }
  | _ => none }
def fnExactCreditOfRow : OpenClaim := { program := "ytfmkomllnojkjaa", sum := "9c18871897933877500ac249956c47347bee79ddeb0eabceafd2b29a1c6e5cd0", func := "loop.example/g00869/laws.FnExactCreditOf", spec := "fnExactCreditOf", apart := false }
def FnExactCreditOfSaid : Prop := fnExactCreditOfRow.holds Try.pinned (OpenSpec.ofChange fnExactCreditOfSpec)

/-- ITS FALSE NEIGHBOUR: 'it returns false'. Refute it at one input. -/
def fnExactCreditOfWrong : ChangeSpec := { name := "fnExactCreditOf", fn := fun _ => fun
  | [d] => { results := [.lit (.bool false)], args := [d] }
  | _ => none }
def FnExactCreditOfWrongFalsely : Prop := fnExactCreditOfRow.holds Try.pinned (OpenSpec.ofChange fnExactCreditOfWrong)

/-- 'laws.FnExactLoopMean': WHATEVER THE INPUT: true; the input reads as it did. -/
def fnExactLoopMeanSpec : ChangeSpec := { name := "fnExactLoopMean", fn := fun _ => fun
  | [d1, d2] => { results := [.lit (.bool true)], args := [d1, d2] }
  | _ => none }
def fnExactLoopMeanRow : OpenClaim := { program := "ytfmkomllnojkjaa", sum := "9c18871897933877500ac249956c47347bee79ddeb0eabceafd2b29a1c6e5cd0", func := "loop.example/g00869/laws.FnExactLoopMean", spec := "fnExactLoopMean", apart := false }
def FnExactLoopMeanSaid : Prop := fnExactLoopMeanRow.holds Try.pinned (OpenSpec.ofChange fnExactLoopMeanSpec)

/-- ITS FALSE NEIGHBOUR: 'it returns false'. Refute it at one input. -/
def fnExactLoopMeanWrong : ChangeSpec := { name := "fnExactLoopMean", fn := fun _ => fun
  | [d1, d2] => { results := [.lit (.bool false)], args := [d1, d2] }
  | _ => none }
def FnExactLoopMeanWrongFalsely : Prop := fnExactLoopMeanRow.holds Try.pinned (OpenSpec.ofChange fnExactLoopMeanWrong)

/-- 'laws.FnExactFixedWeighted': WHATEVER THE INPUT: true; the input reads as it did. -/
def fnExactFixedWeightedSpec : ChangeSpec := { name := "fnExactFixedWeighted", fn := fun _ => fun
  | [d1, d2, d3] => { results := [.lit (.bool true)], args := [d1, d2, d3] }
  | _ => none }
def fnExactFixedWeightedRow : OpenClaim := { program := "ytfmkomllnojkjaa", sum := "9c18871897933877500ac249956c47347bee79ddeb0eabceafd2b29a1c6e5cd0", func := "loop.example/g00869/laws.FnExactFixedWeighted", spec := "fnExactFixedWeighted", apart := false }
def FnExactFixedWeightedSaid : Prop := fnExactFixedWeightedRow.holds Try.pinned (OpenSpec.ofChange fnExactFixedWeightedSpec)

/-- ITS FALSE NEIGHBOUR: 'it returns false'. Refute it at one input. -/
def fnExactFixedWeightedWrong : ChangeSpec := { name := "fnExactFixedWeighted", fn := fun _ => fun
  | [d1, d2, d3] => { results := [.lit (.bool false)], args := [d1, d2, d3] }
  | _ => none }
def FnExactFixedWeightedWrongFalsely : Prop := fnExactFixedWeightedRow.holds Try.pinned (OpenSpec.ofChange fnExactFixedWeightedWrong)

/-- 'laws.FnExactCreditPlan': WHATEVER THE INPUT: true; the input reads as it did. -/
def fnExactCreditPlanSpec : ChangeSpec := { name := "fnExactCreditPlan", fn := fun _ => fun
  | [d] => { results := [.lit (.bool true)], args := [d] }
  | _ => none }
def fnExactCreditPlanRow : OpenClaim := { program := "ytfmkomllnojkjaa", sum := "9c18871897933877500ac249956c47347bee79ddeb0eabceafd2b29a1c6e5cd0", func := "loop.example/g00869/laws.FnExactCreditPlan", spec := "fnExactCreditPlan", apart := false }
def FnExactCreditPlanSaid : Prop := fnExactCreditPlanRow.holds Try.pinned (OpenSpec.ofChange fnExactCreditPlanSpec)

/-- ITS FALSE NEIGHBOUR: 'it returns false'. Refute it at one input. -/
def fnExactCreditPlanWrong : ChangeSpec := { name := "fnExactCreditPlan", fn := fun _ => fun
  | [d] => { results := [.lit (.bool false)], args := [d] }
  | _ => none }
def FnExactCreditPlanWrongFalsely : Prop := fnExactCreditPlanRow.holds Try.pinned (OpenSpec.ofChange fnExactCreditPlanWrong)

/-- 'laws.FnExactCreditsFor': WHATEVER THE INPUT: true; the input reads as it did. -/
def fnExactCreditsForSpec : ChangeSpec := { name := "fnExactCreditsFor", fn := fun _ => fun
  | [d1, d2] => { results := [.lit (.bool true)], args := [d1, d2] }
  | _ => none }
def fnExactCreditsForRow : OpenClaim := { program := "ytfmkomllnojkjaa", sum := "9c18871897933877500ac249956c47347bee79ddeb0eabceafd2b29a1c6e5cd0", func := "loop.example/g00869/laws.FnExactCreditsFor", spec := "fnExactCreditsFor", apart := false }
def FnExactCreditsForSaid : Prop := fnExactCreditsForRow.holds Try.pinned (OpenSpec.ofChange fnExactCreditsForSpec)

/-- ITS FALSE NEIGHBOUR: 'it returns false'. Refute it at one input. -/
def fnExactCreditsForWrong : ChangeSpec := { name := "fnExactCreditsFor", fn := fun _ => fun
  | [d1, d2] => { results := [.lit (.bool false)], args := [d1, d2] }
  | _ => none }
def FnExactCreditsForWrongFalsely : Prop := fnExactCreditsForRow.holds Try.pinned (OpenSpec.ofChange fnExactCreditsForWrong)

/-- 'laws.FnExactMeanOf': WHATEVER THE INPUT: true; the input reads as it did. -/
def fnExactMeanOfSpec : ChangeSpec := { name := "fnExactMeanOf", fn := fun _ => fun
  | [d] => { results := [.lit (.bool true)], args := [d] }
  | _ => none }
def fnExactMeanOfRow : OpenClaim := { program := "ytfmkomllnojkjaa", sum := "9c18871897933877500ac249956c47347bee79ddeb0eabceafd2b29a1c6e5cd0", func := "loop.example/g00869/laws.FnExactMeanOf", spec := "fnExactMeanOf", apart := false }
def FnExactMeanOfSaid : Prop := fnExactMeanOfRow.holds Try.pinned (OpenSpec.ofChange fnExactMeanOfSpec)

/-- ITS FALSE NEIGHBOUR: 'it returns false'. Refute it at one input. -/
def fnExactMeanOfWrong : ChangeSpec := { name := "fnExactMeanOf", fn := fun _ => fun
  | [d] => { results := [.lit (.bool false)], args := [d] }
  | _ => none }
def FnExactMeanOfWrongFalsely : Prop := fnExactMeanOfRow.holds Try.pinned (OpenSpec.ofChange fnExactMeanOfWrong)

/- THE SECOND FORM. 'bulk': how many values and letters a reading holds, each counted each time it is reached (what is shared counts as often as it is met; a slice's spare places count too). A statement '..UptoSaid' is the law's where the arguments, and the package variables that the reading takes, are together of bulk at most 1048576: NARROWER than '..Said'. Prove '..Said' where nothing that the law and all that it calls make is longer than what came in: it says more and counts as full. Else prove '..UptoSaid'. A law counts once. -/
mutual
def uptoBulk {H : Type} : DataW H → Nat
  | .lit (.string bytes) => bytes.length + 1
  | .lit _ => 1
  | .nil => 1
  | .ptr d => uptoBulk d + 1
  | .slice elems spare => uptoBulkAll elems + uptoBulkAll spare + 1
  | .agg parts => uptoBulkAll parts + 1
  | .iface _ d => uptoBulk d + 1
  | .map entries => uptoBulkEntries entries + 1
  | .held _ => 1
def uptoBulkAll {H : Type} : List (DataW H) → Nat
  | [] => 0
  | d :: r => uptoBulk d + uptoBulkAll r
def uptoBulkEntries {H : Type} : List (Lit × DataW H) → Nat
  | [] => 0
  | x :: r => uptoBulkEntry x + uptoBulkEntries r
def uptoBulkEntry {H : Type} : Lit × DataW H → Nat
  | (.string bytes, d) => bytes.length + uptoBulk d + 1
  | (_, d) => uptoBulk d + 1
 end
def uptoSmall : (H : Type) → List (DataW H) → Bool := fun _ ds => decide (uptoBulkAll ds ≤ 1048576)
def OpenSpec.upto (s : _root_.Go.ChangeSpec) : _root_.Go.OpenSpec := { _root_.Go.OpenSpec.ofChange s with cond := some uptoSmall }

/-- 'laws.FnExactWeightedOk', WHERE WHAT IT READS IS OF BULK AT MOST 1048576: true; the input reads as it did. -/
def fnExactWeightedOkUptoRow : OpenClaim := { program := "ytfmkomllnojkjaa", sum := "9c18871897933877500ac249956c47347bee79ddeb0eabceafd2b29a1c6e5cd0", func := "loop.example/g00869/laws.FnExactWeightedOk", spec := "fnExactWeightedOk", apart := false, narrowed := true }
def FnExactWeightedOkUptoSaid : Prop := fnExactWeightedOkUptoRow.holds Try.pinned (OpenSpec.upto fnExactWeightedOkSpec)

/-- 'laws.FnExactCostOf', WHERE WHAT IT READS IS OF BULK AT MOST 1048576: true; the input reads as it did. -/
def fnExactCostOfUptoRow : OpenClaim := { program := "ytfmkomllnojkjaa", sum := "9c18871897933877500ac249956c47347bee79ddeb0eabceafd2b29a1c6e5cd0", func := "loop.example/g00869/laws.FnExactCostOf", spec := "fnExactCostOf", apart := false, narrowed := true }
def FnExactCostOfUptoSaid : Prop := fnExactCostOfUptoRow.holds Try.pinned (OpenSpec.upto fnExactCostOfSpec)

/-- 'laws.FnExactCreditBound', WHERE WHAT IT READS IS OF BULK AT MOST 1048576: true; the input reads as it did. -/
def fnExactCreditBoundUptoRow : OpenClaim := { program := "ytfmkomllnojkjaa", sum := "9c18871897933877500ac249956c47347bee79ddeb0eabceafd2b29a1c6e5cd0", func := "loop.example/g00869/laws.FnExactCreditBound", spec := "fnExactCreditBound", apart := false, narrowed := true }
def FnExactCreditBoundUptoSaid : Prop := fnExactCreditBoundUptoRow.holds Try.pinned (OpenSpec.upto fnExactCreditBoundSpec)

/-- 'laws.FnExactLoopSum', WHERE WHAT IT READS IS OF BULK AT MOST 1048576: true; the input reads as it did. -/
def fnExactLoopSumUptoRow : OpenClaim := { program := "ytfmkomllnojkjaa", sum := "9c18871897933877500ac249956c47347bee79ddeb0eabceafd2b29a1c6e5cd0", func := "loop.example/g00869/laws.FnExactLoopSum", spec := "fnExactLoopSum", apart := false, narrowed := true }
def FnExactLoopSumUptoSaid : Prop := fnExactLoopSumUptoRow.holds Try.pinned (OpenSpec.upto fnExactLoopSumSpec)

/-- 'laws.FnExactDualOf', WHERE WHAT IT READS IS OF BULK AT MOST 1048576: true; the input reads as it did. -/
def fnExactDualOfUptoRow : OpenClaim := { program := "ytfmkomllnojkjaa", sum := "9c18871897933877500ac249956c47347bee79ddeb0eabceafd2b29a1c6e5cd0", func := "loop.example/g00869/laws.FnExactDualOf", spec := "fnExactDualOf", apart := false, narrowed := true }
def FnExactDualOfUptoSaid : Prop := fnExactDualOfUptoRow.holds Try.pinned (OpenSpec.upto fnExactDualOfSpec)

/-- 'laws.FnExactLassoCredit', WHERE WHAT IT READS IS OF BULK AT MOST 1048576: true; the input reads as it did. -/
def fnExactLassoCreditUptoRow : OpenClaim := { program := "ytfmkomllnojkjaa", sum := "9c18871897933877500ac249956c47347bee79ddeb0eabceafd2b29a1c6e5cd0", func := "loop.example/g00869/laws.FnExactLassoCredit", spec := "fnExactLassoCredit", apart := false, narrowed := true }
def FnExactLassoCreditUptoSaid : Prop := fnExactLassoCreditUptoRow.holds Try.pinned (OpenSpec.upto fnExactLassoCreditSpec)

/-- 'laws.FnExactCreditOf', WHERE WHAT IT READS IS OF BULK AT MOST 1048576: true; the input reads as it did. -/
def fnExactCreditOfUptoRow : OpenClaim := { program := "ytfmkomllnojkjaa", sum := "9c18871897933877500ac249956c47347bee79ddeb0eabceafd2b29a1c6e5cd0", func := "loop.example/g00869/laws.FnExactCreditOf", spec := "fnExactCreditOf", apart := false, narrowed := true }
def FnExactCreditOfUptoSaid : Prop := fnExactCreditOfUptoRow.holds Try.pinned (OpenSpec.upto fnExactCreditOfSpec)

/-- 'laws.FnExactLoopMean', WHERE WHAT IT READS IS OF BULK AT MOST 1048576: true; the input reads as it did. -/
def fnExactLoopMeanUptoRow : OpenClaim := { program := "ytfmkomllnojkjaa", sum := "9c18871897933877500ac249956c47347bee79ddeb0eabceafd2b29a1c6e5cd0", func := "loop.example/g00869/laws.FnExactLoopMean", spec := "fnExactLoopMean", apart := false, narrowed := true }
def FnExactLoopMeanUptoSaid : Prop := fnExactLoopMeanUptoRow.holds Try.pinned (OpenSpec.upto fnExactLoopMeanSpec)

/-- 'laws.FnExactFixedWeighted', WHERE WHAT IT READS IS OF BULK AT MOST 1048576: true; the input reads as it did. -/
def fnExactFixedWeightedUptoRow : OpenClaim := { program := "ytfmkomllnojkjaa", sum := "9c18871897933877500ac249956c47347bee79ddeb0eabceafd2b29a1c6e5cd0", func := "loop.example/g00869/laws.FnExactFixedWeighted", spec := "fnExactFixedWeighted", apart := false, narrowed := true }
def FnExactFixedWeightedUptoSaid : Prop := fnExactFixedWeightedUptoRow.holds Try.pinned (OpenSpec.upto fnExactFixedWeightedSpec)

/-- 'laws.FnExactCreditPlan', WHERE WHAT IT READS IS OF BULK AT MOST 1048576: true; the input reads as it did. -/
def fnExactCreditPlanUptoRow : OpenClaim := { program := "ytfmkomllnojkjaa", sum := "9c18871897933877500ac249956c47347bee79ddeb0eabceafd2b29a1c6e5cd0", func := "loop.example/g00869/laws.FnExactCreditPlan", spec := "fnExactCreditPlan", apart := false, narrowed := true }
def FnExactCreditPlanUptoSaid : Prop := fnExactCreditPlanUptoRow.holds Try.pinned (OpenSpec.upto fnExactCreditPlanSpec)

/-- 'laws.FnExactCreditsFor', WHERE WHAT IT READS IS OF BULK AT MOST 1048576: true; the input reads as it did. -/
def fnExactCreditsForUptoRow : OpenClaim := { program := "ytfmkomllnojkjaa", sum := "9c18871897933877500ac249956c47347bee79ddeb0eabceafd2b29a1c6e5cd0", func := "loop.example/g00869/laws.FnExactCreditsFor", spec := "fnExactCreditsFor", apart := false, narrowed := true }
def FnExactCreditsForUptoSaid : Prop := fnExactCreditsForUptoRow.holds Try.pinned (OpenSpec.upto fnExactCreditsForSpec)

/-- 'laws.FnExactMeanOf', WHERE WHAT IT READS IS OF BULK AT MOST 1048576: true; the input reads as it did. -/
def fnExactMeanOfUptoRow : OpenClaim := { program := "ytfmkomllnojkjaa", sum := "9c18871897933877500ac249956c47347bee79ddeb0eabceafd2b29a1c6e5cd0", func := "loop.example/g00869/laws.FnExactMeanOf", spec := "fnExactMeanOf", apart := false, narrowed := true }
def FnExactMeanOfUptoSaid : Prop := fnExactMeanOfUptoRow.holds Try.pinned (OpenSpec.upto fnExactMeanOfSpec)

end Rows
end Go.Proofs.Ytfmkomllnojkjaa
