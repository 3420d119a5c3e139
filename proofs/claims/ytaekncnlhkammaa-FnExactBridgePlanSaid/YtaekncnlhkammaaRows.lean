/-
  No cell of these rows narrows 'for every input' (looked for: loops, veiled, ifaces, maps, wideKeys, modest, calm, conditions, laid).
  DERIVED. THE GIVEN ROWS OF THIS SEAT. 12 by the template 'for every input the law returns true; each argument reads behind the call as it read before'; 0 by the template 'total and deterministic' (their statements: YtaekncnlhkammaaTotals.lean).
  GIVEN WITH THE SEED: the statements are not yours to turn. If you find one false, say at which input.
  Laid BY PROGRAM, IN A SANDBOX (cutbox-rows.mjs): the forced cells as the released guide's own fill.sh prints them over the translation 34283fa7486e8731… (all of the seat's roots in one cut). By AI agents, Wed Nov 11 2026. No macro, syntax, notation, axiom, sorry.
-/
import Derived.Test.YtaekncnlhkammaaChecked
import GoSem.Claim
import GoSem.ClaimJoined
import GoSem.ClaimMapViews
import Derived.JoinedTies
import Derived.KernelRfl
namespace Go.Proofs.Ytaekncnlhkammaa
/- THE CELL 'sum', in the pinned program and in every row, IS THE sha256 OF THE DUMP (.gsa) THAT YtaekncnlhkammaaProg.lean LOADS. Nothing in Lean hashes anything: it is a label: what it is worth is what the hold of that sum in a sandbox is worth. -/
noncomputable def Try.pinned : Pinned := { name := "ytaekncnlhkammaa", sum := "34283fa7486e8731ffbf5a9fa84ea7e6e4c66d66d513f9140d76867198a162b1", checked := Try.checked }
namespace Rows
def none {H : Type} : Left H := { results := [], args := [] }

/-- 'laws.FnExactScoreOf': WHATEVER THE INPUT: true; the input reads as it did. -/
def fnExactScoreOfSpec : ChangeSpec := { name := "fnExactScoreOf", fn := fun _ => fun
  | [d1, d2] => { results := [.lit (.bool true)], args := [d1, d2] }
  | _ => none }
def fnExactScoreOfRow : OpenClaim := { program := "ytaekncnlhkammaa", sum := "34283fa7486e8731ffbf5a9fa84ea7e6e4c66d66d513f9140d76867198a162b1", func := "loop.example/g00869/laws.FnExactScoreOf", spec := "fnExactScoreOf", apart := false }
def FnExactScoreOfSaid : Prop := fnExactScoreOfRow.holds Try.pinned (OpenSpec.ofChange fnExactScoreOfSpec)

/-- ITS FALSE NEIGHBOUR: 'it returns false'. Refute it at one input. -/
def fnExactScoreOfWrong : ChangeSpec := { name := "fnExactScoreOf", fn := fun _ => fun
  | [d1, d2] => { results := [.lit (.bool false)], args := [d1, d2] }
  | _ => none }
def FnExactScoreOfWrongFalsely : Prop := fnExactScoreOfRow.holds Try.pinned (OpenSpec.ofChange fnExactScoreOfWrong)

/-- 'laws.FnExactBridgeOf': WHATEVER THE INPUT: true; the input reads as it did. -/
def fnExactBridgeOfSpec : ChangeSpec := { name := "fnExactBridgeOf", fn := fun _ => fun
  | [d] => { results := [.lit (.bool true)], args := [d] }
  | _ => none }
def fnExactBridgeOfRow : OpenClaim := { program := "ytaekncnlhkammaa", sum := "34283fa7486e8731ffbf5a9fa84ea7e6e4c66d66d513f9140d76867198a162b1", func := "loop.example/g00869/laws.FnExactBridgeOf", spec := "fnExactBridgeOf", apart := false }
def FnExactBridgeOfSaid : Prop := fnExactBridgeOfRow.holds Try.pinned (OpenSpec.ofChange fnExactBridgeOfSpec)

/-- ITS FALSE NEIGHBOUR: 'it returns false'. Refute it at one input. -/
def fnExactBridgeOfWrong : ChangeSpec := { name := "fnExactBridgeOf", fn := fun _ => fun
  | [d] => { results := [.lit (.bool false)], args := [d] }
  | _ => none }
def FnExactBridgeOfWrongFalsely : Prop := fnExactBridgeOfRow.holds Try.pinned (OpenSpec.ofChange fnExactBridgeOfWrong)

/-- 'laws.FnExactBridgeWon': WHATEVER THE INPUT: true; the input reads as it did. -/
def fnExactBridgeWonSpec : ChangeSpec := { name := "fnExactBridgeWon", fn := fun _ => fun
  | [d] => { results := [.lit (.bool true)], args := [d] }
  | _ => none }
def fnExactBridgeWonRow : OpenClaim := { program := "ytaekncnlhkammaa", sum := "34283fa7486e8731ffbf5a9fa84ea7e6e4c66d66d513f9140d76867198a162b1", func := "loop.example/g00869/laws.FnExactBridgeWon", spec := "fnExactBridgeWon", apart := false }
def FnExactBridgeWonSaid : Prop := fnExactBridgeWonRow.holds Try.pinned (OpenSpec.ofChange fnExactBridgeWonSpec)

/-- ITS FALSE NEIGHBOUR: 'it returns false'. Refute it at one input. -/
def fnExactBridgeWonWrong : ChangeSpec := { name := "fnExactBridgeWon", fn := fun _ => fun
  | [d] => { results := [.lit (.bool false)], args := [d] }
  | _ => none }
def FnExactBridgeWonWrongFalsely : Prop := fnExactBridgeWonRow.holds Try.pinned (OpenSpec.ofChange fnExactBridgeWonWrong)

/-- 'laws.FnExactBridgeLoop': WHATEVER THE INPUT: true; the input reads as it did. -/
def fnExactBridgeLoopSpec : ChangeSpec := { name := "fnExactBridgeLoop", fn := fun _ => fun
  | [d1, d2] => { results := [.lit (.bool true)], args := [d1, d2] }
  | _ => none }
def fnExactBridgeLoopRow : OpenClaim := { program := "ytaekncnlhkammaa", sum := "34283fa7486e8731ffbf5a9fa84ea7e6e4c66d66d513f9140d76867198a162b1", func := "loop.example/g00869/laws.FnExactBridgeLoop", spec := "fnExactBridgeLoop", apart := false }
def FnExactBridgeLoopSaid : Prop := fnExactBridgeLoopRow.holds Try.pinned (OpenSpec.ofChange fnExactBridgeLoopSpec)

/-- ITS FALSE NEIGHBOUR: 'it returns false'. Refute it at one input. -/
def fnExactBridgeLoopWrong : ChangeSpec := { name := "fnExactBridgeLoop", fn := fun _ => fun
  | [d1, d2] => { results := [.lit (.bool false)], args := [d1, d2] }
  | _ => none }
def FnExactBridgeLoopWrongFalsely : Prop := fnExactBridgeLoopRow.holds Try.pinned (OpenSpec.ofChange fnExactBridgeLoopWrong)

/-- 'laws.FnExactBridgePlan': WHATEVER THE INPUT: true; the input reads as it did. -/
def fnExactBridgePlanSpec : ChangeSpec := { name := "fnExactBridgePlan", fn := fun _ => fun
  | [d] => { results := [.lit (.bool true)], args := [d] }
  | _ => none }
def fnExactBridgePlanRow : OpenClaim := { program := "ytaekncnlhkammaa", sum := "34283fa7486e8731ffbf5a9fa84ea7e6e4c66d66d513f9140d76867198a162b1", func := "loop.example/g00869/laws.FnExactBridgePlan", spec := "fnExactBridgePlan", apart := false }
def FnExactBridgePlanSaid : Prop := fnExactBridgePlanRow.holds Try.pinned (OpenSpec.ofChange fnExactBridgePlanSpec)

/-- ITS FALSE NEIGHBOUR: 'it returns false'. Refute it at one input. -/
def fnExactBridgePlanWrong : ChangeSpec := { name := "fnExactBridgePlan", fn := fun _ => fun
  | [d] => { results := [.lit (.bool false)], args := [d] }
  | _ => none }
def FnExactBridgePlanWrongFalsely : Prop := fnExactBridgePlanRow.holds Try.pinned (OpenSpec.ofChange fnExactBridgePlanWrong)

/-- 'laws.FnExactFamilyOk': WHATEVER THE INPUT: true; the input reads as it did. -/
def fnExactFamilyOkSpec : ChangeSpec := { name := "fnExactFamilyOk", fn := fun _ => fun
  | [d1, d2] => { results := [.lit (.bool true)], args := [d1, d2] }
  | _ => none }
def fnExactFamilyOkRow : OpenClaim := { program := "ytaekncnlhkammaa", sum := "34283fa7486e8731ffbf5a9fa84ea7e6e4c66d66d513f9140d76867198a162b1", func := "loop.example/g00869/laws.FnExactFamilyOk", spec := "fnExactFamilyOk", unfollowed := true, recurses := true, apart := false }
def FnExactFamilyOkSaid : Prop := fnExactFamilyOkRow.holds Try.pinned (OpenSpec.ofChange fnExactFamilyOkSpec)

/-- ITS FALSE NEIGHBOUR: 'it returns false'. Refute it at one input. -/
def fnExactFamilyOkWrong : ChangeSpec := { name := "fnExactFamilyOk", fn := fun _ => fun
  | [d1, d2] => { results := [.lit (.bool false)], args := [d1, d2] }
  | _ => none }
def FnExactFamilyOkWrongFalsely : Prop := fnExactFamilyOkRow.holds Try.pinned (OpenSpec.ofChange fnExactFamilyOkWrong)

/-- 'laws.FnExactMemoryOk': WHATEVER THE INPUT: true; the input reads as it did. -/
def fnExactMemoryOkSpec : ChangeSpec := { name := "fnExactMemoryOk", fn := fun _ => fun
  | [d1, d2] => { results := [.lit (.bool true)], args := [d1, d2] }
  | _ => none }
def fnExactMemoryOkRow : OpenClaim := { program := "ytaekncnlhkammaa", sum := "34283fa7486e8731ffbf5a9fa84ea7e6e4c66d66d513f9140d76867198a162b1", func := "loop.example/g00869/laws.FnExactMemoryOk", spec := "fnExactMemoryOk", apart := false }
def FnExactMemoryOkSaid : Prop := fnExactMemoryOkRow.holds Try.pinned (OpenSpec.ofChange fnExactMemoryOkSpec)

/-- ITS FALSE NEIGHBOUR: 'it returns false'. Refute it at one input. -/
def fnExactMemoryOkWrong : ChangeSpec := { name := "fnExactMemoryOk", fn := fun _ => fun
  | [d1, d2] => { results := [.lit (.bool false)], args := [d1, d2] }
  | _ => none }
def FnExactMemoryOkWrongFalsely : Prop := fnExactMemoryOkRow.holds Try.pinned (OpenSpec.ofChange fnExactMemoryOkWrong)

/-- 'laws.FnExactPlanMemory': WHATEVER THE INPUT: true; the input reads as it did. -/
def fnExactPlanMemorySpec : ChangeSpec := { name := "fnExactPlanMemory", fn := fun _ => fun
  | [d1, d2] => { results := [.lit (.bool true)], args := [d1, d2] }
  | _ => none }
def fnExactPlanMemoryRow : OpenClaim := { program := "ytaekncnlhkammaa", sum := "34283fa7486e8731ffbf5a9fa84ea7e6e4c66d66d513f9140d76867198a162b1", func := "loop.example/g00869/laws.FnExactPlanMemory", spec := "fnExactPlanMemory", apart := false }
def FnExactPlanMemorySaid : Prop := fnExactPlanMemoryRow.holds Try.pinned (OpenSpec.ofChange fnExactPlanMemorySpec)

/-- ITS FALSE NEIGHBOUR: 'it returns false'. Refute it at one input. -/
def fnExactPlanMemoryWrong : ChangeSpec := { name := "fnExactPlanMemory", fn := fun _ => fun
  | [d1, d2] => { results := [.lit (.bool false)], args := [d1, d2] }
  | _ => none }
def FnExactPlanMemoryWrongFalsely : Prop := fnExactPlanMemoryRow.holds Try.pinned (OpenSpec.ofChange fnExactPlanMemoryWrong)

/-- 'laws.FnExactFamilyMet': WHATEVER THE INPUT: true; the input reads as it did. -/
def fnExactFamilyMetSpec : ChangeSpec := { name := "fnExactFamilyMet", fn := fun _ => fun
  | [d1, d2] => { results := [.lit (.bool true)], args := [d1, d2] }
  | _ => none }
def fnExactFamilyMetRow : OpenClaim := { program := "ytaekncnlhkammaa", sum := "34283fa7486e8731ffbf5a9fa84ea7e6e4c66d66d513f9140d76867198a162b1", func := "loop.example/g00869/laws.FnExactFamilyMet", spec := "fnExactFamilyMet", unfollowed := true, recurses := true, apart := false }
def FnExactFamilyMetSaid : Prop := fnExactFamilyMetRow.holds Try.pinned (OpenSpec.ofChange fnExactFamilyMetSpec)

/-- ITS FALSE NEIGHBOUR: 'it returns false'. Refute it at one input. -/
def fnExactFamilyMetWrong : ChangeSpec := { name := "fnExactFamilyMet", fn := fun _ => fun
  | [d1, d2] => { results := [.lit (.bool false)], args := [d1, d2] }
  | _ => none }
def FnExactFamilyMetWrongFalsely : Prop := fnExactFamilyMetRow.holds Try.pinned (OpenSpec.ofChange fnExactFamilyMetWrong)

/-- 'laws.FnExactFamilyOther': WHATEVER THE INPUT: true; the input reads as it did. -/
def fnExactFamilyOtherSpec : ChangeSpec := { name := "fnExactFamilyOther", fn := fun _ => fun
  | [d] => { results := [.lit (.bool true)], args := [d] }
  | _ => none }
def fnExactFamilyOtherRow : OpenClaim := { program := "ytaekncnlhkammaa", sum := "34283fa7486e8731ffbf5a9fa84ea7e6e4c66d66d513f9140d76867198a162b1", func := "loop.example/g00869/laws.FnExactFamilyOther", spec := "fnExactFamilyOther", unfollowed := true, recurses := true, apart := false }
def FnExactFamilyOtherSaid : Prop := fnExactFamilyOtherRow.holds Try.pinned (OpenSpec.ofChange fnExactFamilyOtherSpec)

/-- ITS FALSE NEIGHBOUR: 'it returns false'. Refute it at one input. -/
def fnExactFamilyOtherWrong : ChangeSpec := { name := "fnExactFamilyOther", fn := fun _ => fun
  | [d] => { results := [.lit (.bool false)], args := [d] }
  | _ => none }
def FnExactFamilyOtherWrongFalsely : Prop := fnExactFamilyOtherRow.holds Try.pinned (OpenSpec.ofChange fnExactFamilyOtherWrong)

/-- 'laws.FnExactNextVisits': WHATEVER THE INPUT: true; the input reads as it did. -/
def fnExactNextVisitsSpec : ChangeSpec := { name := "fnExactNextVisits", fn := fun _ => fun
  | [d1, d2, d3] => { results := [.lit (.bool true)], args := [d1, d2, d3] }
  | _ => none }
def fnExactNextVisitsRow : OpenClaim := { program := "ytaekncnlhkammaa", sum := "34283fa7486e8731ffbf5a9fa84ea7e6e4c66d66d513f9140d76867198a162b1", func := "loop.example/g00869/laws.FnExactNextVisits", spec := "fnExactNextVisits", unfollowed := true, recurses := true, apart := false }
def FnExactNextVisitsSaid : Prop := fnExactNextVisitsRow.holds Try.pinned (OpenSpec.ofChange fnExactNextVisitsSpec)

/-- ITS FALSE NEIGHBOUR: 'it returns false'. Refute it at one input. -/
def fnExactNextVisitsWrong : ChangeSpec := { name := "fnExactNextVisits", fn := fun _ => fun
  | [d1, d2, d3] => { results := [.lit (.bool false)], args := [d1, d2, d3] }
  | _ => none }
def FnExactNextVisitsWrongFalsely : Prop := fnExactNextVisitsRow.holds Try.pinned (OpenSpec.ofChange fnExactNextVisitsWrong)

/-- 'laws.FnExactVisitsOk': WHATEVER THE INPUT: true; the input reads as it did. -/
def fnExactVisitsOkSpec : ChangeSpec := { name := "fnExactVisitsOk", fn := fun _ => fun
  | [d1, d2] => { results := [.lit (.bool true)], args := [d1, d2] }
  | _ => none }
def fnExactVisitsOkRow : OpenClaim := { program := "ytaekncnlhkammaa", sum := "34283fa7486e8731ffbf5a9fa84ea7e6e4c66d66d513f9140d76867198a162b1", func := "loop.example/g00869/laws.FnExactVisitsOk", spec := "fnExactVisitsOk", unfollowed := true, recurses := true, apart := false }
def FnExactVisitsOkSaid : Prop := fnExactVisitsOkRow.holds Try.pinned (OpenSpec.ofChange fnExactVisitsOkSpec)

/-- ITS FALSE NEIGHBOUR: 'it returns false'. Refute it at one input. -/
def fnExactVisitsOkWrong : ChangeSpec := { name := "fnExactVisitsOk", fn := fun _ => fun
  | [d1, d2] => { results := [.lit (.bool false)], args := [d1, d2] }
  | _ => none }
def FnExactVisitsOkWrongFalsely : Prop := fnExactVisitsOkRow.holds Try.pinned (OpenSpec.ofChange fnExactVisitsOkWrong)

/- THE SECOND FORM. 'bulk': how many values and letters a reading holds, each counted each time it is reached (what is shared counts as often as it is met; a slice's spare places count too). A statement '..UptoSaid' is the law's where the arguments, and the package variables that the reading takes, are together of bulk at most 1048576: NARROWER than '..Said'. Prove '..Said' where nothing that the law and all that it calls make is longer than what came in: it says more and counts as full. Else prove '..UptoSaid'. A law counts once. -/
mutual
def uptoBulk {H : Type} : DataW H → Nat
  | .lit (.string bytes) => bytes.length + 1
  | .lit _ => 1
  | .nil => 1
  | .ptr d => uptoBulk d + 1
  | .slice elems spare => uptoBulkAll elems + uptoBulkAll spare + 1
  | .agg parts => uptoBulkAll parts + 1
  | .iface _ d => uptoBulk d + 1
  | .map entries => uptoBulkEntries entries + 1
  | .held _ => 1
def uptoBulkAll {H : Type} : List (DataW H) → Nat
  | [] => 0
  | d :: r => uptoBulk d + uptoBulkAll r
def uptoBulkEntries {H : Type} : List (Lit × DataW H) → Nat
  | [] => 0
  | x :: r => uptoBulkEntry x + uptoBulkEntries r
def uptoBulkEntry {H : Type} : Lit × DataW H → Nat
  | (.string bytes, d) => bytes.length + uptoBulk d + 1
  | (_, d) => uptoBulk d + 1
 end
def uptoSmall : (H : Type) → List (DataW H) → Bool := fun _ ds => decide (uptoBulkAll ds ≤ 1048576)
def OpenSpec.upto (s : _root_.Go.ChangeSpec) : _root_.Go.OpenSpec := { _root_.Go.OpenSpec.ofChange s with cond := some uptoSmall }

/-- 'laws.FnExactScoreOf', WHERE WHAT IT READS IS OF BULK AT MOST 1048576: true; the input reads as it did. -/
def fnExactScoreOfUptoRow : OpenClaim := { program := "ytaekncnlhkammaa", sum := "34283fa7486e8731ffbf5a9fa84ea7e6e4c66d66d513f9140d76867198a162b1", func := "loop.example/g00869/laws.FnExactScoreOf", spec := "fnExactScoreOf", apart := false, narrowed := true }
def FnExactScoreOfUptoSaid : Prop := fnExactScoreOfUptoRow.holds Try.pinned (OpenSpec.upto fnExactScoreOfSpec)

/-- 'laws.FnExactBridgeOf', WHERE WHAT IT READS IS OF BULK AT MOST 1048576: true; the input reads as it did. -/
def fnExactBridgeOfUptoRow : OpenClaim := { program := "ytaekncnlhkammaa", sum := "34283fa7486e8731ffbf5a9fa84ea7e6e4c66d66d513f9140d76867198a162b1", func := "loop.example/g00869/laws.FnExactBridgeOf", spec := "fnExactBridgeOf", apart := false, narrowed := true }
def FnExactBridgeOfUptoSaid : Prop := fnExactBridgeOfUptoRow.holds Try.pinned (OpenSpec.upto fnExactBridgeOfSpec)

/-- 'laws.FnExactBridgeWon', WHERE WHAT IT READS IS OF BULK AT MOST 1048576: true; the input reads as it did. -/
def fnExactBridgeWonUptoRow : OpenClaim := { program := "ytaekncnlhkammaa", sum := "34283fa7486e8731ffbf5a9fa84ea7e6e4c66d66d513f9140d76867198a162b1", func := "loop.example/g00869/laws.FnExactBridgeWon", spec := "fnExactBridgeWon", apart := false, narrowed := true }
def FnExactBridgeWonUptoSaid : Prop := fnExactBridgeWonUptoRow.holds Try.pinned (OpenSpec.upto fnExactBridgeWonSpec)

/-- 'laws.FnExactBridgeLoop', WHERE WHAT IT READS IS OF BULK AT MOST 1048576: true; the input reads as it did. -/
def fnExactBridgeLoopUptoRow : OpenClaim := { program := "ytaekncnlhkammaa", sum := "34283fa7486e8731ffbf5a9fa84ea7e6e4c66d66d513f9140d76867198a162b1", func := "loop.example/g00869/laws.FnExactBridgeLoop", spec := "fnExactBridgeLoop", apart := false, narrowed := true }
def FnExactBridgeLoopUptoSaid : Prop := fnExactBridgeLoopUptoRow.holds Try.pinned (OpenSpec.upto fnExactBridgeLoopSpec)

/-- 'laws.FnExactBridgePlan', WHERE WHAT IT READS IS OF BULK AT MOST 1048576: true; the input reads as it did. -/
def fnExactBridgePlanUptoRow : OpenClaim := { program := "ytaekncnlhkammaa", sum := "34283fa7486e8731ffbf5a9fa84ea7e6e4c66d66d513f9140d76867198a162b1", func := "loop.example/g00869/laws.FnExactBridgePlan", spec := "fnExactBridgePlan", apart := false, narrowed := true }
def FnExactBridgePlanUptoSaid : Prop := fnExactBridgePlanUptoRow.holds Try.pinned (OpenSpec.upto fnExactBridgePlanSpec)

/-- 'laws.FnExactFamilyOk', WHERE WHAT IT READS IS OF BULK AT MOST 1048576: true; the input reads as it did. -/
def fnExactFamilyOkUptoRow : OpenClaim := { program := "ytaekncnlhkammaa", sum := "34283fa7486e8731ffbf5a9fa84ea7e6e4c66d66d513f9140d76867198a162b1", func := "loop.example/g00869/laws.FnExactFamilyOk", spec := "fnExactFamilyOk", unfollowed := true, recurses := true, apart := false, narrowed := true }
def FnExactFamilyOkUptoSaid : Prop := fnExactFamilyOkUptoRow.holds Try.pinned (OpenSpec.upto fnExactFamilyOkSpec)

/-- 'laws.FnExactMemoryOk', WHERE WHAT IT READS IS OF BULK AT MOST 1048576: true; the input reads as it did. -/
def fnExactMemoryOkUptoRow : OpenClaim := { program := "ytaekncnlhkammaa", sum := "34283fa7486e8731ffbf5a9fa84ea7e6e4c66d66d513f9140d76867198a162b1", func := "loop.example/g00869/laws.FnExactMemoryOk", spec := "fnExactMemoryOk", apart := false, narrowed := true }
def FnExactMemoryOkUptoSaid : Prop := fnExactMemoryOkUptoRow.holds Try.pinned (OpenSpec.upto fnExactMemoryOkSpec)

/-- 'laws.FnExactPlanMemory', WHERE WHAT IT READS IS OF BULK AT MOST 1048576: true; the input reads as it did. -/
def fnExactPlanMemoryUptoRow : OpenClaim := { program := "ytaekncnlhkammaa", sum := "34283fa7486e8731ffbf5a9fa84ea7e6e4c66d66d513f9140d76867198a162b1", func := "loop.example/g00869/laws.FnExactPlanMemory", spec := "fnExactPlanMemory", apart := false, narrowed := true }
def FnExactPlanMemoryUptoSaid : Prop := fnExactPlanMemoryUptoRow.holds Try.pinned (OpenSpec.upto fnExactPlanMemorySpec)

/-- 'laws.FnExactFamilyMet', WHERE WHAT IT READS IS OF BULK AT MOST 1048576: true; the input reads as it did. -/
def fnExactFamilyMetUptoRow : OpenClaim := { program := "ytaekncnlhkammaa", sum := "34283fa7486e8731ffbf5a9fa84ea7e6e4c66d66d513f9140d76867198a162b1", func := "loop.example/g00869/laws.FnExactFamilyMet", spec := "fnExactFamilyMet", unfollowed := true, recurses := true, apart := false, narrowed := true }
def FnExactFamilyMetUptoSaid : Prop := fnExactFamilyMetUptoRow.holds Try.pinned (OpenSpec.upto fnExactFamilyMetSpec)

/-- 'laws.FnExactFamilyOther', WHERE WHAT IT READS IS OF BULK AT MOST 1048576: true; the input reads as it did. -/
def fnExactFamilyOtherUptoRow : OpenClaim := { program := "ytaekncnlhkammaa", sum := "34283fa7486e8731ffbf5a9fa84ea7e6e4c66d66d513f9140d76867198a162b1", func := "loop.example/g00869/laws.FnExactFamilyOther", spec := "fnExactFamilyOther", unfollowed := true, recurses := true, apart := false, narrowed := true }
def FnExactFamilyOtherUptoSaid : Prop := fnExactFamilyOtherUptoRow.holds Try.pinned (OpenSpec.upto fnExactFamilyOtherSpec)

/-- 'laws.FnExactNextVisits', WHERE WHAT IT READS IS OF BULK AT MOST 1048576: true; the input reads as it did. -/
def fnExactNextVisitsUptoRow : OpenClaim := { program := "ytaekncnlhkammaa", sum := "34283fa7486e8731ffbf5a9fa84ea7e6e4c66d66d513f9140d76867198a162b1", func := "loop.example/g00869/laws.FnExactNextVisits", spec := "fnExactNextVisits", unfollowed := true, recurses := true, apart := false, narrowed := true }
def FnExactNextVisitsUptoSaid : Prop := fnExactNextVisitsUptoRow.holds Try.pinned (OpenSpec.upto fnExactNextVisitsSpec)

/-- 'laws.FnExactVisitsOk', WHERE WHAT IT READS IS OF BULK AT MOST 1048576: true; the input reads as it did. -/
def fnExactVisitsOkUptoRow : OpenClaim := { program := "ytaekncnlhkammaa", sum := "34283fa7486e8731ffbf5a9fa84ea7e6e4c66d66d513f9140d76867198a162b1", func := "loop.example/g00869/laws.FnExactVisitsOk", spec := "fnExactVisitsOk", unfollowed := true, recurses := true, apart := false, narrowed := true }
def FnExactVisitsOkUptoSaid : Prop := fnExactVisitsOkUptoRow.holds Try.pinned (OpenSpec.upto fnExactVisitsOkSpec)

end Rows
end Go.Proofs.Ytaekncnlhkammaa
