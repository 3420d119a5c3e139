/-
  No cell of these rows narrows 'for every input' (looked for: loops, veiled, ifaces, maps, wideKeys, modest, calm, conditions, laid).
  DERIVED. THE GIVEN ROWS OF THIS SEAT. 4 by the template 'for every input the law returns true; each argument reads behind the call as it read before'; 0 by the template 'total and deterministic' (their statements: YthepmdkpbjfdcaaGreatTotals.lean).
  GIVEN WITH THE SEED: the statements are not yours to turn. If you find one false, say at which input.
  Laid BY PROGRAM, IN A SANDBOX (cutbox-rows.mjs): the forced cells as the released guide's own fill.sh prints them over the translation 71752a8e82ae8ed9… (all of the seat's roots in one cut). By AI agents, Wed Nov 11 2026. No macro, syntax, notation, axiom, sorry.
-/
import Derived.Test.YthepmdkpbjfdcaaGreatChecked
import GoSem.Claim
import GoSem.ClaimJoined
import GoSem.ClaimMapViews
import Derived.JoinedTies
import Derived.KernelRfl
namespace Go.Proofs.YthepmdkpbjfdcaaGreat
/- THE CELL 'sum', in the pinned program and in every row, IS THE sha256 OF THE DUMP (.gsa) THAT YthepmdkpbjfdcaaGreatProg.lean LOADS. Nothing in Lean hashes anything: it is a label: what it is worth is what the hold of that sum in a sandbox is worth. -/
noncomputable def Tryz.pinned : Pinned := { name := "ythepmdkpbjfdcaagreat", sum := "71752a8e82ae8ed9959c0f36d5a4fa8cc999db3fa3b054f24bafcd0ec9ec30eb", checked := Tryz.checked }
namespace Rows
def none {H : Type} : Left H := { results := [], args := [] }

/-- 'laws.FnExactFamilyWinner': WHATEVER THE INPUT: true; the input reads as it did. -/
def fnExactFamilyWinnerSpec : ChangeSpec := { name := "fnExactFamilyWinner", fn := fun _ => fun
  | [d1, d2, d3] => { results := [.lit (.bool true)], args := [d1, d2, d3] }
  | _ => none }
def fnExactFamilyWinnerRow : OpenClaim := { program := "ythepmdkpbjfdcaagreat", sum := "71752a8e82ae8ed9959c0f36d5a4fa8cc999db3fa3b054f24bafcd0ec9ec30eb", func := "loop.example/g00869/laws.FnExactFamilyWinner", spec := "fnExactFamilyWinner", unfollowed := true, recurses := true, plainKeys := false, apart := false }
def FnExactFamilyWinnerSaid : Prop := fnExactFamilyWinnerRow.holds Tryz.pinned (OpenSpec.ofChange fnExactFamilyWinnerSpec)

/-- ITS FALSE NEIGHBOUR: 'it returns false'. Refute it at one input. -/
def fnExactFamilyWinnerWrong : ChangeSpec := { name := "fnExactFamilyWinner", fn := fun _ => fun
  | [d1, d2, d3] => { results := [.lit (.bool false)], args := [d1, d2, d3] }
  | _ => none }
def FnExactFamilyWinnerWrongFalsely : Prop := fnExactFamilyWinnerRow.holds Tryz.pinned (OpenSpec.ofChange fnExactFamilyWinnerWrong)

/-- 'laws.FnFamily': WHATEVER THE INPUT: true; the input reads as it did. -/
def fnFamilySpec : ChangeSpec := { name := "fnFamily", fn := fun _ => fun
  | [d] => { results := [.lit (.bool true)], args := [d] }
  | _ => none }
def fnFamilyRow : OpenClaim := { program := "ythepmdkpbjfdcaagreat", sum := "71752a8e82ae8ed9959c0f36d5a4fa8cc999db3fa3b054f24bafcd0ec9ec30eb", func := "loop.example/g00869/laws.FnFamily", spec := "fnFamily", unfollowed := true, recurses := true, plainKeys := false, apart := false }
def FnFamilySaid : Prop := fnFamilyRow.holds Tryz.pinned (OpenSpec.ofChange fnFamilySpec)

/-- ITS FALSE NEIGHBOUR: 'it returns false'. Refute it at one input. -/
def fnFamilyWrong : ChangeSpec := { name := "fnFamily", fn := fun _ => fun
  | [d] => { results := [.lit (.bool false)], args := [d] }
  | _ => none }
def FnFamilyWrongFalsely : Prop := fnFamilyRow.holds Tryz.pinned (OpenSpec.ofChange fnFamilyWrong)

/-- 'laws.FnExactMemoryOf': WHATEVER THE INPUT: true; the input reads as it did. -/
def fnExactMemoryOfSpec : ChangeSpec := { name := "fnExactMemoryOf", fn := fun _ => fun
  | [d1, d2, d3] => { results := [.lit (.bool true)], args := [d1, d2, d3] }
  | _ => none }
def fnExactMemoryOfRow : OpenClaim := { program := "ythepmdkpbjfdcaagreat", sum := "71752a8e82ae8ed9959c0f36d5a4fa8cc999db3fa3b054f24bafcd0ec9ec30eb", func := "loop.example/g00869/laws.FnExactMemoryOf", spec := "fnExactMemoryOf", unfollowed := true, recurses := true, plainKeys := false, apart := false }
def FnExactMemoryOfSaid : Prop := fnExactMemoryOfRow.holds Tryz.pinned (OpenSpec.ofChange fnExactMemoryOfSpec)

/-- ITS FALSE NEIGHBOUR: 'it returns false'. Refute it at one input. -/
def fnExactMemoryOfWrong : ChangeSpec := { name := "fnExactMemoryOf", fn := fun _ => fun
  | [d1, d2, d3] => { results := [.lit (.bool false)], args := [d1, d2, d3] }
  | _ => none }
def FnExactMemoryOfWrongFalsely : Prop := fnExactMemoryOfRow.holds Tryz.pinned (OpenSpec.ofChange fnExactMemoryOfWrong)

/-- 'laws.FnMemory': WHATEVER THE INPUT: true; the input reads as it did. -/
def fnMemorySpec : ChangeSpec := { name := "fnMemory", fn := fun _ => fun
  | [d] => { results := [.lit (.bool true)], args := [d] }
  | _ => none }
def fnMemoryRow : OpenClaim := { program := "ythepmdkpbjfdcaagreat", sum := "71752a8e82ae8ed9959c0f36d5a4fa8cc999db3fa3b054f24bafcd0ec9ec30eb", func := "loop.example/g00869/laws.FnMemory", spec := "fnMemory", unfollowed := true, recurses := true, plainKeys := false, apart := false }
def FnMemorySaid : Prop := fnMemoryRow.holds Tryz.pinned (OpenSpec.ofChange fnMemorySpec)

/-- ITS FALSE NEIGHBOUR: 'it returns false'. Refute it at one input. -/
def fnMemoryWrong : ChangeSpec := { name := "fnMemory", fn := fun _ => fun
  | [d] => { results := [.lit (.bool false)], args := [d] }
  | _ => none }
def FnMemoryWrongFalsely : Prop := fnMemoryRow.holds Tryz.pinned (OpenSpec.ofChange fnMemoryWrong)

/- THE SECOND FORM. 'bulk': how many values and letters a reading holds, each counted each time it is reached (what is shared counts as often as it is met; a slice's spare places count too). A statement '..UptoSaid' is the law's where the arguments, and the package variables that the reading takes, are together of bulk at most 1048576: NARROWER than '..Said'. Prove '..Said' where nothing that the law and all that it calls make is longer than what came in: it says more and counts as full. Else prove '..UptoSaid'. A law counts once. -/
mutual
def uptoBulk {H : Type} : DataW H → Nat
  | .lit (.string bytes) => bytes.length + 1
  | .lit _ => 1
  | .nil => 1
  | .ptr d => uptoBulk d + 1
  | .slice elems spare => uptoBulkAll elems + uptoBulkAll spare + 1
  | .agg parts => uptoBulkAll parts + 1
  | .iface _ d => uptoBulk d + 1
  | .map entries => uptoBulkEntries entries + 1
  | .held _ => 1
def uptoBulkAll {H : Type} : List (DataW H) → Nat
  | [] => 0
  | d :: r => uptoBulk d + uptoBulkAll r
def uptoBulkEntries {H : Type} : List (Lit × DataW H) → Nat
  | [] => 0
  | x :: r => uptoBulkEntry x + uptoBulkEntries r
def uptoBulkEntry {H : Type} : Lit × DataW H → Nat
  | (.string bytes, d) => bytes.length + uptoBulk d + 1
  | (_, d) => uptoBulk d + 1
 end
def uptoSmall : (H : Type) → List (DataW H) → Bool := fun _ ds => decide (uptoBulkAll ds ≤ 1048576)
def OpenSpec.upto (s : _root_.Go.ChangeSpec) : _root_.Go.OpenSpec := { _root_.Go.OpenSpec.ofChange s with cond := some uptoSmall }

/-- 'laws.FnExactFamilyWinner', WHERE WHAT IT READS IS OF BULK AT MOST 1048576: true; the input reads as it did. -/
def fnExactFamilyWinnerUptoRow : OpenClaim := { program := "ythepmdkpbjfdcaagreat", sum := "71752a8e82ae8ed9959c0f36d5a4fa8cc999db3fa3b054f24bafcd0ec9ec30eb", func := "loop.example/g00869/laws.FnExactFamilyWinner", spec := "fnExactFamilyWinner", unfollowed := true, recurses := true, plainKeys := false, apart := false, narrowed := true }
def FnExactFamilyWinnerUptoSaid : Prop := fnExactFamilyWinnerUptoRow.holds Tryz.pinned (OpenSpec.upto fnExactFamilyWinnerSpec)

/-- 'laws.FnFamily', WHERE WHAT IT READS IS OF BULK AT MOST 1048576: true; the input reads as it did. -/
def fnFamilyUptoRow : OpenClaim := { program := "ythepmdkpbjfdcaagreat", sum := "71752a8e82ae8ed9959c0f36d5a4fa8cc999db3fa3b054f24bafcd0ec9ec30eb", func := "loop.example/g00869/laws.FnFamily", spec := "fnFamily", unfollowed := true, recurses := true, plainKeys := false, apart := false, narrowed := true }
def FnFamilyUptoSaid : Prop := fnFamilyUptoRow.holds Tryz.pinned (OpenSpec.upto fnFamilySpec)

/-- 'laws.FnExactMemoryOf', WHERE WHAT IT READS IS OF BULK AT MOST 1048576: true; the input reads as it did. -/
def fnExactMemoryOfUptoRow : OpenClaim := { program := "ythepmdkpbjfdcaagreat", sum := "71752a8e82ae8ed9959c0f36d5a4fa8cc999db3fa3b054f24bafcd0ec9ec30eb", func := "loop.example/g00869/laws.FnExactMemoryOf", spec := "fnExactMemoryOf", unfollowed := true, recurses := true, plainKeys := false, apart := false, narrowed := true }
def FnExactMemoryOfUptoSaid : Prop := fnExactMemoryOfUptoRow.holds Tryz.pinned (OpenSpec.upto fnExactMemoryOfSpec)

/-- 'laws.FnMemory', WHERE WHAT IT READS IS OF BULK AT MOST 1048576: true; the input reads as it did. -/
def fnMemoryUptoRow : OpenClaim := { program := "ythepmdkpbjfdcaagreat", sum := "71752a8e82ae8ed9959c0f36d5a4fa8cc999db3fa3b054f24bafcd0ec9ec30eb", func := "loop.example/g00869/laws.FnMemory", spec := "fnMemory", unfollowed := true, recurses := true, plainKeys := false, apart := false, narrowed := true }
def FnMemoryUptoSaid : Prop := fnMemoryUptoRow.holds Tryz.pinned (OpenSpec.upto fnMemorySpec)

end Rows
end Go.Proofs.YthepmdkpbjfdcaaGreat
