/-
  No cell of these rows narrows 'for every input' (looked for: loops, veiled, ifaces, maps, wideKeys, modest, calm, conditions, laid).
  DERIVED. THE GIVEN ROWS OF THIS SEAT. 6 by the template 'for every input the law returns true; each argument reads behind the call as it read before'; 0 by the template 'total and deterministic' (their statements: YthdfkiaoahpjpaaTotals.lean).
  GIVEN WITH THE SEED: the statements are not yours to turn. If you find one false, say at which input.
  Laid BY PROGRAM, IN A SANDBOX (cutbox-rows.mjs): the forced cells as the released guide's own fill.sh prints them over the translation 85f62c807fb3476d… (all of the seat's roots in one cut). By AI agents, Wed Nov 11 2026. No macro, syntax, notation, axiom, sorry.
-/
import Derived.Test.YthdfkiaoahpjpaaChecked
import GoSem.Claim
import GoSem.ClaimJoined
import GoSem.ClaimMapViews
import Derived.JoinedTies
import Derived.KernelRfl
namespace Go.Proofs.Ythdfkiaoahpjpaa
/- THE CELL 'sum', in the pinned program and in every row, IS THE sha256 OF THE DUMP (.gsa) THAT YthdfkiaoahpjpaaProg.lean LOADS. Nothing in Lean hashes anything: it is a label: what it is worth is what the hold of that sum in a sandbox is worth. -/
noncomputable def Try.pinned : Pinned := { name := "ythdfkiaoahpjpaa", sum := "85f62c807fb3476df2e758b700a8767e65bc33bfedbc4f4b1b73d7ce88aa5603", checked := Try.checked }
namespace Rows
def none {H : Type} : Left H := { results := [], args := [] }

/-- 'laws.FnComparisons': WHATEVER THE INPUT: true; the input reads as it did. -/
def fnComparisonsSpec : ChangeSpec := { name := "fnComparisons", fn := fun _ => fun
  | [d] => { results := [.lit (.bool true)], args := [d] }
  | _ => none }
def fnComparisonsRow : OpenClaim := { program := "ythdfkiaoahpjpaa", sum := "85f62c807fb3476df2e758b700a8767e65bc33bfedbc4f4b1b73d7ce88aa5603", func := "loop.example/g00979/laws.FnComparisons", spec := "fnComparisons", plainKeys := false, apart := false }
def FnComparisonsSaid : Prop := fnComparisonsRow.holds Try.pinned (OpenSpec.ofChange fnComparisonsSpec)

/-- ITS FALSE NEIGHBOUR: 'it returns false'. Refute it at one input. -/
def fnComparisonsWrong : ChangeSpec := { name := "fnComparisons", fn := fun _ => fun
  | [d] => { results := [.lit (.bool false)], args := [d] }
  | _ => none }
def FnComparisonsWrongFalsely : Prop := fnComparisonsRow.holds Try.pinned (OpenSpec.ofChange fnComparisonsWrong)

/-- 'laws.FnArithmetic': WHATEVER THE INPUT: true; the input reads as it did. -/
def fnArithmeticSpec : ChangeSpec := { name := "fnArithmetic", fn := fun _ => fun
  | [d] => { results := [.lit (.bool true)], args := [d] }
  | _ => none }
def fnArithmeticRow : OpenClaim := { program := "ythdfkiaoahpjpaa", sum := "85f62c807fb3476df2e758b700a8767e65bc33bfedbc4f4b1b73d7ce88aa5603", func := "loop.example/g00979/laws.FnArithmetic", spec := "fnArithmetic", plainKeys := false, apart := false }
def FnArithmeticSaid : Prop := fnArithmeticRow.holds Try.pinned (OpenSpec.ofChange fnArithmeticSpec)

/-- ITS FALSE NEIGHBOUR: 'it returns false'. Refute it at one input. -/
def fnArithmeticWrong : ChangeSpec := { name := "fnArithmetic", fn := fun _ => fun
  | [d] => { results := [.lit (.bool false)], args := [d] }
  | _ => none }
def FnArithmeticWrongFalsely : Prop := fnArithmeticRow.holds Try.pinned (OpenSpec.ofChange fnArithmeticWrong)

/-- 'laws.FnConstantCircuits': WHATEVER THE INPUT: true; the input reads as it did. -/
def fnConstantCircuitsSpec : ChangeSpec := { name := "fnConstantCircuits", fn := fun _ => fun
  | [d] => { results := [.lit (.bool true)], args := [d] }
  | _ => none }
def fnConstantCircuitsRow : OpenClaim := { program := "ythdfkiaoahpjpaa", sum := "85f62c807fb3476df2e758b700a8767e65bc33bfedbc4f4b1b73d7ce88aa5603", func := "loop.example/g00979/laws.FnConstantCircuits", spec := "fnConstantCircuits", plainKeys := false, apart := false }
def FnConstantCircuitsSaid : Prop := fnConstantCircuitsRow.holds Try.pinned (OpenSpec.ofChange fnConstantCircuitsSpec)

/-- ITS FALSE NEIGHBOUR: 'it returns false'. Refute it at one input. -/
def fnConstantCircuitsWrong : ChangeSpec := { name := "fnConstantCircuits", fn := fun _ => fun
  | [d] => { results := [.lit (.bool false)], args := [d] }
  | _ => none }
def FnConstantCircuitsWrongFalsely : Prop := fnConstantCircuitsRow.holds Try.pinned (OpenSpec.ofChange fnConstantCircuitsWrong)

/-- 'laws.FnExactCopiesNew': WHATEVER THE INPUT: true; the input reads as it did. -/
def fnExactCopiesNewSpec : ChangeSpec := { name := "fnExactCopiesNew", fn := fun _ => fun
  | [d1, d2] => { results := [.lit (.bool true)], args := [d1, d2] }
  | _ => none }
def fnExactCopiesNewRow : OpenClaim := { program := "ythdfkiaoahpjpaa", sum := "85f62c807fb3476df2e758b700a8767e65bc33bfedbc4f4b1b73d7ce88aa5603", func := "loop.example/g00979/laws.FnExactCopiesNew", spec := "fnExactCopiesNew", plainKeys := false, apart := false }
def FnExactCopiesNewSaid : Prop := fnExactCopiesNewRow.holds Try.pinned (OpenSpec.ofChange fnExactCopiesNewSpec)

/-- ITS FALSE NEIGHBOUR: 'it returns false'. Refute it at one input. -/
def fnExactCopiesNewWrong : ChangeSpec := { name := "fnExactCopiesNew", fn := fun _ => fun
  | [d1, d2] => { results := [.lit (.bool false)], args := [d1, d2] }
  | _ => none }
def FnExactCopiesNewWrongFalsely : Prop := fnExactCopiesNewRow.holds Try.pinned (OpenSpec.ofChange fnExactCopiesNewWrong)

/-- 'laws.FnExactCheckCopies': WHATEVER THE INPUT: true; the input reads as it did. -/
def fnExactCheckCopiesSpec : ChangeSpec := { name := "fnExactCheckCopies", fn := fun _ => fun
  | [d1, d2, d3, d4] => { results := [.lit (.bool true)], args := [d1, d2, d3, d4] }
  | _ => none }
def fnExactCheckCopiesRow : OpenClaim := { program := "ythdfkiaoahpjpaa", sum := "85f62c807fb3476df2e758b700a8767e65bc33bfedbc4f4b1b73d7ce88aa5603", func := "loop.example/g00979/laws.FnExactCheckCopies", spec := "fnExactCheckCopies", plainKeys := false, apart := false }
def FnExactCheckCopiesSaid : Prop := fnExactCheckCopiesRow.holds Try.pinned (OpenSpec.ofChange fnExactCheckCopiesSpec)

/-- ITS FALSE NEIGHBOUR: 'it returns false'. Refute it at one input. -/
def fnExactCheckCopiesWrong : ChangeSpec := { name := "fnExactCheckCopies", fn := fun _ => fun
  | [d1, d2, d3, d4] => { results := [.lit (.bool false)], args := [d1, d2, d3, d4] }
  | _ => none }
def FnExactCheckCopiesWrongFalsely : Prop := fnExactCheckCopiesRow.holds Try.pinned (OpenSpec.ofChange fnExactCheckCopiesWrong)

/-- 'laws.FnCaught': WHATEVER THE INPUT: true; the input reads as it did. -/
def fnCaughtSpec : ChangeSpec := { name := "fnCaught", fn := fun _ => fun
  | [d] => { results := [.lit (.bool true)], args := [d] }
  | _ => none }
def fnCaughtRow : OpenClaim := { program := "ythdfkiaoahpjpaa", sum := "85f62c807fb3476df2e758b700a8767e65bc33bfedbc4f4b1b73d7ce88aa5603", func := "loop.example/g00979/laws.FnCaught", spec := "fnCaught", plainKeys := false, apart := false }
def FnCaughtSaid : Prop := fnCaughtRow.holds Try.pinned (OpenSpec.ofChange fnCaughtSpec)

/-- ITS FALSE NEIGHBOUR: 'it returns false'. Refute it at one input. -/
def fnCaughtWrong : ChangeSpec := { name := "fnCaught", fn := fun _ => fun
  | [d] => { results := [.lit (.bool false)], args := [d] }
  | _ => none }
def FnCaughtWrongFalsely : Prop := fnCaughtRow.holds Try.pinned (OpenSpec.ofChange fnCaughtWrong)

/- THE SECOND FORM. 'bulk': how many values and letters a reading holds, each counted each time it is reached (what is shared counts as often as it is met; a slice's spare places count too). A statement '..UptoSaid' is the law's where the arguments, and the package variables that the reading takes, are together of bulk at most 1048576: NARROWER than '..Said'. Prove '..Said' where nothing that the law and all that it calls make is longer than what came in: it says more and counts as full. Else prove '..UptoSaid'. A law counts once. -/
mutual
def uptoBulk {H : Type} : DataW H → Nat
  | .lit (.string bytes) => bytes.length + 1
  | .lit _ => 1
  | .nil => 1
  | .ptr d => uptoBulk d + 1
  | .slice elems spare => uptoBulkAll elems + uptoBulkAll spare + 1
  | .agg parts => uptoBulkAll parts + 1
  | .iface _ d => uptoBulk d + 1
  | .map entries => uptoBulkEntries entries + 1
  | .held _ => 1
def uptoBulkAll {H : Type} : List (DataW H) → Nat
  | [] => 0
  | d :: r => uptoBulk d + uptoBulkAll r
def uptoBulkEntries {H : Type} : List (Lit × DataW H) → Nat
  | [] => 0
  | x :: r => uptoBulkEntry x + uptoBulkEntries r
def uptoBulkEntry {H : Type} : Lit × DataW H → Nat
  | (.string bytes, d) => bytes.length + uptoBulk d + 1
  | (_, d) => uptoBulk d + 1
 end
def uptoSmall : (H : Type) → List (DataW H) → Bool := fun _ ds => decide (uptoBulkAll ds ≤ 1048576)
def OpenSpec.upto (s : _root_.Go.ChangeSpec) : _root_.Go.OpenSpec := { _root_.Go.OpenSpec.ofChange s with cond := some uptoSmall }

/-- 'laws.FnComparisons', WHERE WHAT IT READS IS OF BULK AT MOST 1048576: true; the input reads as it did. -/
def fnComparisonsUptoRow : OpenClaim := { program := "ythdfkiaoahpjpaa", sum := "85f62c807fb3476df2e758b700a8767e65bc33bfedbc4f4b1b73d7ce88aa5603", func := "loop.example/g00979/laws.FnComparisons", spec := "fnComparisons", plainKeys := false, apart := false, narrowed := true }
def FnComparisonsUptoSaid : Prop := fnComparisonsUptoRow.holds Try.pinned (OpenSpec.upto fnComparisonsSpec)

/-- 'laws.FnArithmetic', WHERE WHAT IT READS IS OF BULK AT MOST 1048576: true; the input reads as it did. -/
def fnArithmeticUptoRow : OpenClaim := { program := "ythdfkiaoahpjpaa", sum := "85f62c807fb3476df2e758b700a8767e65bc33bfedbc4f4b1b73d7ce88aa5603", func := "loop.example/g00979/laws.FnArithmetic", spec := "fnArithmetic", plainKeys := false, apart := false, narrowed := true }
def FnArithmeticUptoSaid : Prop := fnArithmeticUptoRow.holds Try.pinned (OpenSpec.upto fnArithmeticSpec)

/-- 'laws.FnConstantCircuits', WHERE WHAT IT READS IS OF BULK AT MOST 1048576: true; the input reads as it did. -/
def fnConstantCircuitsUptoRow : OpenClaim := { program := "ythdfkiaoahpjpaa", sum := "85f62c807fb3476df2e758b700a8767e65bc33bfedbc4f4b1b73d7ce88aa5603", func := "loop.example/g00979/laws.FnConstantCircuits", spec := "fnConstantCircuits", plainKeys := false, apart := false, narrowed := true }
def FnConstantCircuitsUptoSaid : Prop := fnConstantCircuitsUptoRow.holds Try.pinned (OpenSpec.upto fnConstantCircuitsSpec)

/-- 'laws.FnExactCopiesNew', WHERE WHAT IT READS IS OF BULK AT MOST 1048576: true; the input reads as it did. -/
def fnExactCopiesNewUptoRow : OpenClaim := { program := "ythdfkiaoahpjpaa", sum := "85f62c807fb3476df2e758b700a8767e65bc33bfedbc4f4b1b73d7ce88aa5603", func := "loop.example/g00979/laws.FnExactCopiesNew", spec := "fnExactCopiesNew", plainKeys := false, apart := false, narrowed := true }
def FnExactCopiesNewUptoSaid : Prop := fnExactCopiesNewUptoRow.holds Try.pinned (OpenSpec.upto fnExactCopiesNewSpec)

/-- 'laws.FnExactCheckCopies', WHERE WHAT IT READS IS OF BULK AT MOST 1048576: true; the input reads as it did. -/
def fnExactCheckCopiesUptoRow : OpenClaim := { program := "ythdfkiaoahpjpaa", sum := "85f62c807fb3476df2e758b700a8767e65bc33bfedbc4f4b1b73d7ce88aa5603", func := "loop.example/g00979/laws.FnExactCheckCopies", spec := "fnExactCheckCopies", plainKeys := false, apart := false, narrowed := true }
def FnExactCheckCopiesUptoSaid : Prop := fnExactCheckCopiesUptoRow.holds Try.pinned (OpenSpec.upto fnExactCheckCopiesSpec)

/-- 'laws.FnCaught', WHERE WHAT IT READS IS OF BULK AT MOST 1048576: true; the input reads as it did. -/
def fnCaughtUptoRow : OpenClaim := { program := "ythdfkiaoahpjpaa", sum := "85f62c807fb3476df2e758b700a8767e65bc33bfedbc4f4b1b73d7ce88aa5603", func := "loop.example/g00979/laws.FnCaught", spec := "fnCaught", plainKeys := false, apart := false, narrowed := true }
def FnCaughtUptoSaid : Prop := fnCaughtUptoRow.holds Try.pinned (OpenSpec.upto fnCaughtSpec)

end Rows
end Go.Proofs.Ythdfkiaoahpjpaa
