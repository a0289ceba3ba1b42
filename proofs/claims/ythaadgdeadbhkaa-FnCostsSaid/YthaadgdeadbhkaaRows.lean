/-
  No cell of these rows narrows 'for every input' (looked for: loops, veiled, ifaces, maps, wideKeys, modest, calm, conditions, laid).
  DERIVED. THE GIVEN ROWS OF THIS SEAT. 5 by the template 'for every input the law returns true; each argument reads behind the call as it read before'; 0 by the template 'total and deterministic' (their statements: YthaadgdeadbhkaaTotals.lean).
  GIVEN WITH THE SEED: the statements are not yours to turn. If you find one false, say at which input.
  Laid BY PROGRAM, IN A SANDBOX (cutbox-rows.mjs): the forced cells as the released guide's own fill.sh prints them over the translation 92611f27e170d7e0… (all of the seat's roots in one cut). By AI agents, Wed Nov 11 2026. No macro, syntax, notation, axiom, sorry.
-/
import Derived.Test.YthaadgdeadbhkaaChecked
import GoSem.Claim
import GoSem.ClaimJoined
import GoSem.ClaimMapViews
import Derived.JoinedTies
import Derived.KernelRfl
namespace Go.Proofs.Ythaadgdeadbhkaa
/- THE CELL 'sum', in the pinned program and in every row, IS THE sha256 OF THE DUMP (.gsa) THAT YthaadgdeadbhkaaProg.lean LOADS. Nothing in Lean hashes anything: it is a label: what it is worth is what the hold of that sum in a sandbox is worth. -/
noncomputable def Try.pinned : Pinned := { name := "ythaadgdeadbhkaa", sum := "92611f27e170d7e0075710413933932f968362009a89d6e2dc715bc8963b1dfe", checked := Try.checked }
namespace Rows
def none {H : Type} : Left H := { results := [], args := [] }

/-- 'laws.FnRounds': WHATEVER THE INPUT: true; the input reads as it did. -/
def fnRoundsSpec : ChangeSpec := { name := "fnRounds", fn := fun _ => fun
  | [d] => { results := [.lit (.bool true)], args := [d] }
  | _ => none }
def fnRoundsRow : OpenClaim := { program := "ythaadgdeadbhkaa", sum := "92611f27e170d7e0075710413933932f968362009a89d6e2dc715bc8963b1dfe", func := "loop.example/g00979/laws.FnRounds", spec := "fnRounds", apart := false }
def FnRoundsSaid : Prop := fnRoundsRow.holds Try.pinned (OpenSpec.ofChange fnRoundsSpec)

/-- ITS FALSE NEIGHBOUR: 'it returns false'. Refute it at one input. -/
def fnRoundsWrong : ChangeSpec := { name := "fnRounds", fn := fun _ => fun
  | [d] => { results := [.lit (.bool false)], args := [d] }
  | _ => none }
def FnRoundsWrongFalsely : Prop := fnRoundsRow.holds Try.pinned (OpenSpec.ofChange fnRoundsWrong)

/-- 'laws.FnCosts': WHATEVER THE INPUT: true; the input reads as it did. -/
def fnCostsSpec : ChangeSpec := { name := "fnCosts", fn := fun _ => fun
  | [d] => { results := [.lit (.bool true)], args := [d] }
  | _ => none }
def fnCostsRow : OpenClaim := { program := "ythaadgdeadbhkaa", sum := "92611f27e170d7e0075710413933932f968362009a89d6e2dc715bc8963b1dfe", func := "loop.example/g00979/laws.FnCosts", spec := "fnCosts", apart := false }
def FnCostsSaid : Prop := fnCostsRow.holds Try.pinned (OpenSpec.ofChange fnCostsSpec)

/-- ITS FALSE NEIGHBOUR: 'it returns false'. Refute it at one input. -/
def fnCostsWrong : ChangeSpec := { name := "fnCosts", fn := fun _ => fun
  | [d] => { results := [.lit (.bool false)], args := [d] }
  | _ => none }
def FnCostsWrongFalsely : Prop := fnCostsRow.holds Try.pinned (OpenSpec.ofChange fnCostsWrong)

/-- 'laws.FnExactEngineOk': WHATEVER THE INPUT: true; the input reads as it did. -/
def fnExactEngineOkSpec : ChangeSpec := { name := "fnExactEngineOk", fn := fun _ => fun
  | [d] => { results := [.lit (.bool true)], args := [d] }
  | _ => none }
def fnExactEngineOkRow : OpenClaim := { program := "ythaadgdeadbhkaa", sum := "92611f27e170d7e0075710413933932f968362009a89d6e2dc715bc8963b1dfe", func := "loop.example/g00979/laws.FnExactEngineOk", spec := "fnExactEngineOk", apart := false }
def FnExactEngineOkSaid : Prop := fnExactEngineOkRow.holds Try.pinned (OpenSpec.ofChange fnExactEngineOkSpec)

/-- ITS FALSE NEIGHBOUR: 'it returns false'. Refute it at one input. -/
def fnExactEngineOkWrong : ChangeSpec := { name := "fnExactEngineOk", fn := fun _ => fun
  | [d] => { results := [.lit (.bool false)], args := [d] }
  | _ => none }
def FnExactEngineOkWrongFalsely : Prop := fnExactEngineOkRow.holds Try.pinned (OpenSpec.ofChange fnExactEngineOkWrong)

/-- 'laws.FnExactEngineOutputs': WHATEVER THE INPUT: true; the input reads as it did. -/
def fnExactEngineOutputsSpec : ChangeSpec := { name := "fnExactEngineOutputs", fn := fun _ => fun
  | [d] => { results := [.lit (.bool true)], args := [d] }
  | _ => none }
def fnExactEngineOutputsRow : OpenClaim := { program := "ythaadgdeadbhkaa", sum := "92611f27e170d7e0075710413933932f968362009a89d6e2dc715bc8963b1dfe", func := "loop.example/g00979/laws.FnExactEngineOutputs", spec := "fnExactEngineOutputs", apart := false }
def FnExactEngineOutputsSaid : Prop := fnExactEngineOutputsRow.holds Try.pinned (OpenSpec.ofChange fnExactEngineOutputsSpec)

/-- ITS FALSE NEIGHBOUR: 'it returns false'. Refute it at one input. -/
def fnExactEngineOutputsWrong : ChangeSpec := { name := "fnExactEngineOutputs", fn := fun _ => fun
  | [d] => { results := [.lit (.bool false)], args := [d] }
  | _ => none }
def FnExactEngineOutputsWrongFalsely : Prop := fnExactEngineOutputsRow.holds Try.pinned (OpenSpec.ofChange fnExactEngineOutputsWrong)

/-- 'laws.FnExactEngineNew': WHATEVER THE INPUT: true; the input reads as it did. -/
def fnExactEngineNewSpec : ChangeSpec := { name := "fnExactEngineNew", fn := fun _ => fun
  | [d1, d2, d3, d4] => { results := [.lit (.bool true)], args := [d1, d2, d3, d4] }
  | _ => none }
def fnExactEngineNewRow : OpenClaim := { program := "ythaadgdeadbhkaa", sum := "92611f27e170d7e0075710413933932f968362009a89d6e2dc715bc8963b1dfe", func := "loop.example/g00979/laws.FnExactEngineNew", spec := "fnExactEngineNew", apart := false }
def FnExactEngineNewSaid : Prop := fnExactEngineNewRow.holds Try.pinned (OpenSpec.ofChange fnExactEngineNewSpec)

/-- ITS FALSE NEIGHBOUR: 'it returns false'. Refute it at one input. -/
def fnExactEngineNewWrong : ChangeSpec := { name := "fnExactEngineNew", fn := fun _ => fun
  | [d1, d2, d3, d4] => { results := [.lit (.bool false)], args := [d1, d2, d3, d4] }
  | _ => none }
def FnExactEngineNewWrongFalsely : Prop := fnExactEngineNewRow.holds Try.pinned (OpenSpec.ofChange fnExactEngineNewWrong)

/- THE SECOND FORM. 'bulk': how many values and letters a reading holds, each counted each time it is reached (what is shared counts as often as it is met; a slice's spare places count too). A statement '..UptoSaid' is the law's where the arguments, and the package variables that the reading takes, are together of bulk at most 1048576: NARROWER than '..Said'. Prove '..Said' where nothing that the law and all that it calls make is longer than what came in: it says more and counts as full. Else prove '..UptoSaid'. A law counts once. -/
mutual
def uptoBulk {H : Type} : DataW H → Nat
  | .lit (.string bytes) => bytes.length + 1
  | .lit _ => 1
  | .nil => 1
  | .ptr d => uptoBulk d + 1
  | .slice elems spare => uptoBulkAll elems + uptoBulkAll spare + 1
  | .agg parts => uptoBulkAll parts + 1
  | .iface _ d => uptoBulk d + 1
  | .map entries => uptoBulkEntries entries + 1
  | .held _ => 1
def uptoBulkAll {H : Type} : List (DataW H) → Nat
  | [] => 0
  | d :: r => uptoBulk d + uptoBulkAll r
def uptoBulkEntries {H : Type} : List (Lit × DataW H) → Nat
  | [] => 0
  | x :: r => uptoBulkEntry x + uptoBulkEntries r
def uptoBulkEntry {H : Type} : Lit × DataW H → Nat
  | (.string bytes, d) => bytes.length + uptoBulk d + 1
  | (_, d) => uptoBulk d + 1
 end
def uptoSmall : (H : Type) → List (DataW H) → Bool := fun _ ds => decide (uptoBulkAll ds ≤ 1048576)
def OpenSpec.upto (s : _root_.Go.ChangeSpec) : _root_.Go.OpenSpec := { _root_.Go.OpenSpec.ofChange s with cond := some uptoSmall }

/-- 'laws.FnRounds', WHERE WHAT IT READS IS OF BULK AT MOST 1048576: true; the input reads as it did. -/
def fnRoundsUptoRow : OpenClaim := { program := "ythaadgdeadbhkaa", sum := "92611f27e170d7e0075710413933932f968362009a89d6e2dc715bc8963b1dfe", func := "loop.example/g00979/laws.FnRounds", spec := "fnRounds", apart := false, narrowed := true }
def FnRoundsUptoSaid : Prop := fnRoundsUptoRow.holds Try.pinned (OpenSpec.upto fnRoundsSpec)

/-- 'laws.FnCosts', WHERE WHAT IT READS IS OF BULK AT MOST 1048576: true; the input reads as it did. -/
def fnCostsUptoRow : OpenClaim := { program := "ythaadgdeadbhkaa", sum := "92611f27e170d7e0075710413933932f968362009a89d6e2dc715bc8963b1dfe", func := "loop.example/g00979/laws.FnCosts", spec := "fnCosts", apart := false, narrowed := true }
def FnCostsUptoSaid : Prop := fnCostsUptoRow.holds Try.pinned (OpenSpec.upto fnCostsSpec)

/-- 'laws.FnExactEngineOk', WHERE WHAT IT READS IS OF BULK AT MOST 1048576: true; the input reads as it did. -/
def fnExactEngineOkUptoRow : OpenClaim := { program := "ythaadgdeadbhkaa", sum := "92611f27e170d7e0075710413933932f968362009a89d6e2dc715bc8963b1dfe", func := "loop.example/g00979/laws.FnExactEngineOk", spec := "fnExactEngineOk", apart := false, narrowed := true }
def FnExactEngineOkUptoSaid : Prop := fnExactEngineOkUptoRow.holds Try.pinned (OpenSpec.upto fnExactEngineOkSpec)

/-- 'laws.FnExactEngineOutputs', WHERE WHAT IT READS IS OF BULK AT MOST 1048576: true; the input reads as it did. -/
def fnExactEngineOutputsUptoRow : OpenClaim := { program := "ythaadgdeadbhkaa", sum := "92611f27e170d7e0075710413933932f968362009a89d6e2dc715bc8963b1dfe", func := "loop.example/g00979/laws.FnExactEngineOutputs", spec := "fnExactEngineOutputs", apart := false, narrowed := true }
def FnExactEngineOutputsUptoSaid : Prop := fnExactEngineOutputsUptoRow.holds Try.pinned (OpenSpec.upto fnExactEngineOutputsSpec)

/-- 'laws.FnExactEngineNew', WHERE WHAT IT READS IS OF BULK AT MOST 1048576: true; the input reads as it did. -/
def fnExactEngineNewUptoRow : OpenClaim := { program := "ythaadgdeadbhkaa", sum := "92611f27e170d7e0075710413933932f968362009a89d6e2dc715bc8963b1dfe", func := "loop.example/g00979/laws.FnExactEngineNew", spec := "fnExactEngineNew", apart := false, narrowed := true }
def FnExactEngineNewUptoSaid : Prop := fnExactEngineNewUptoRow.holds Try.pinned (OpenSpec.upto fnExactEngineNewSpec)

end Rows
end Go.Proofs.Ythaadgdeadbhkaa
