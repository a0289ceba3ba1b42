/-
  No cell of these rows narrows 'for every input' (looked for: loops, veiled, ifaces, maps, wideKeys, modest, calm, conditions, laid).
  DERIVED. THE GIVEN ROWS OF THIS SEAT. 18 by the template 'for every input the law returns true; each argument reads behind the call as it read before'; 0 by the template 'total and deterministic' (their statements: YtapljpcpmdlppaaTotals.lean).
  GIVEN WITH THE SEED: the statements are not yours to turn. If you find one false, say at which input.
  Laid BY PROGRAM, IN A SANDBOX (cutbox-rows.mjs): the forced cells as the released guide's own fill.sh prints them over the translation b1e917adc85b416e… (all of the seat's roots in one cut). By AI agents, Wed Nov 11 2026. No macro, syntax, notation, axiom, sorry.
-/
import Derived.Test.YtapljpcpmdlppaaChecked
import GoSem.Claim
import GoSem.ClaimJoined
import GoSem.ClaimMapViews
import Derived.JoinedTies
import Derived.KernelRfl
namespace Go.Proofs.Ytapljpcpmdlppaa
/- THE CELL 'sum', in the pinned program and in every row, IS THE sha256 OF THE DUMP (.gsa) THAT YtapljpcpmdlppaaProg.lean LOADS. Nothing in Lean hashes anything: it is a label: what it is worth is what the hold of that sum in a sandbox is worth. -/
noncomputable def Try.pinned : Pinned := { name := "ytapljpcpmdlppaa", sum := "b1e917adc85b416ee8a2d91c6fa1803b870b42770513a0db817372b58d09c5b4", checked := Try.checked }
namespace Rows
def none {H : Type} : Left H := { results := [], args := [] }

/-- 'laws.FnExactCountMuls': WHATEVER THE INPUT: true; the input reads as it did. -/
def fnExactCountMulsSpec : ChangeSpec := { name := "fnExactCountMuls", fn := fun _ => fun
  | [d] => { results := [.lit (.bool true)], args := [d] }
  | _ => none }
def fnExactCountMulsRow : OpenClaim := { program := "ytapljpcpmdlppaa", sum := "b1e917adc85b416ee8a2d91c6fa1803b870b42770513a0db817372b58d09c5b4", func := "loop.example/g00979/laws.FnExactCountMuls", spec := "fnExactCountMuls", apart := false }
def FnExactCountMulsSaid : Prop := fnExactCountMulsRow.holds Try.pinned (OpenSpec.ofChange fnExactCountMulsSpec)

/-- ITS FALSE NEIGHBOUR: 'it returns false'. Refute it at one input. -/
def fnExactCountMulsWrong : ChangeSpec := { name := "fnExactCountMuls", fn := fun _ => fun
  | [d] => { results := [.lit (.bool false)], args := [d] }
  | _ => none }
def FnExactCountMulsWrongFalsely : Prop := fnExactCountMulsRow.holds Try.pinned (OpenSpec.ofChange fnExactCountMulsWrong)

/-- 'laws.FnNoMuls': WHATEVER THE INPUT: true; the input reads as it did. -/
def fnNoMulsSpec : ChangeSpec := { name := "fnNoMuls", fn := fun _ => fun
  | [d] => { results := [.lit (.bool true)], args := [d] }
  | _ => none }
def fnNoMulsRow : OpenClaim := { program := "ytapljpcpmdlppaa", sum := "b1e917adc85b416ee8a2d91c6fa1803b870b42770513a0db817372b58d09c5b4", func := "loop.example/g00979/laws.FnNoMuls", spec := "fnNoMuls", apart := false }
def FnNoMulsSaid : Prop := fnNoMulsRow.holds Try.pinned (OpenSpec.ofChange fnNoMulsSpec)

/-- ITS FALSE NEIGHBOUR: 'it returns false'. Refute it at one input. -/
def fnNoMulsWrong : ChangeSpec := { name := "fnNoMuls", fn := fun _ => fun
  | [d] => { results := [.lit (.bool false)], args := [d] }
  | _ => none }
def FnNoMulsWrongFalsely : Prop := fnNoMulsRow.holds Try.pinned (OpenSpec.ofChange fnNoMulsWrong)

/-- 'laws.FnExactUsedErrors': WHATEVER THE INPUT: true; the input reads as it did. -/
def fnExactUsedErrorsSpec : ChangeSpec := { name := "fnExactUsedErrors", fn := fun _ => fun
  | [d1, d2] => { results := [.lit (.bool true)], args := [d1, d2] }
  | _ => none }
def fnExactUsedErrorsRow : OpenClaim := { program := "ytapljpcpmdlppaa", sum := "b1e917adc85b416ee8a2d91c6fa1803b870b42770513a0db817372b58d09c5b4", func := "loop.example/g00979/laws.FnExactUsedErrors", spec := "fnExactUsedErrors", apart := false }
def FnExactUsedErrorsSaid : Prop := fnExactUsedErrorsRow.holds Try.pinned (OpenSpec.ofChange fnExactUsedErrorsSpec)

/-- ITS FALSE NEIGHBOUR: 'it returns false'. Refute it at one input. -/
def fnExactUsedErrorsWrong : ChangeSpec := { name := "fnExactUsedErrors", fn := fun _ => fun
  | [d1, d2] => { results := [.lit (.bool false)], args := [d1, d2] }
  | _ => none }
def FnExactUsedErrorsWrongFalsely : Prop := fnExactUsedErrorsRow.holds Try.pinned (OpenSpec.ofChange fnExactUsedErrorsWrong)

/-- 'laws.FnExactArithOk': WHATEVER THE INPUT: true; the input reads as it did. -/
def fnExactArithOkSpec : ChangeSpec := { name := "fnExactArithOk", fn := fun _ => fun
  | [d] => { results := [.lit (.bool true)], args := [d] }
  | _ => none }
def fnExactArithOkRow : OpenClaim := { program := "ytapljpcpmdlppaa", sum := "b1e917adc85b416ee8a2d91c6fa1803b870b42770513a0db817372b58d09c5b4", func := "loop.example/g00979/laws.FnExactArithOk", spec := "fnExactArithOk", apart := false }
def FnExactArithOkSaid : Prop := fnExactArithOkRow.holds Try.pinned (OpenSpec.ofChange fnExactArithOkSpec)

/-- ITS FALSE NEIGHBOUR: 'it returns false'. Refute it at one input. -/
def fnExactArithOkWrong : ChangeSpec := { name := "fnExactArithOk", fn := fun _ => fun
  | [d] => { results := [.lit (.bool false)], args := [d] }
  | _ => none }
def FnExactArithOkWrongFalsely : Prop := fnExactArithOkRow.holds Try.pinned (OpenSpec.ofChange fnExactArithOkWrong)

/-- 'laws.FnExactRoundsOf': WHATEVER THE INPUT: true; the input reads as it did. -/
def fnExactRoundsOfSpec : ChangeSpec := { name := "fnExactRoundsOf", fn := fun _ => fun
  | [d] => { results := [.lit (.bool true)], args := [d] }
  | _ => none }
def fnExactRoundsOfRow : OpenClaim := { program := "ytapljpcpmdlppaa", sum := "b1e917adc85b416ee8a2d91c6fa1803b870b42770513a0db817372b58d09c5b4", func := "loop.example/g00979/laws.FnExactRoundsOf", spec := "fnExactRoundsOf", apart := false }
def FnExactRoundsOfSaid : Prop := fnExactRoundsOfRow.holds Try.pinned (OpenSpec.ofChange fnExactRoundsOfSpec)

/-- ITS FALSE NEIGHBOUR: 'it returns false'. Refute it at one input. -/
def fnExactRoundsOfWrong : ChangeSpec := { name := "fnExactRoundsOf", fn := fun _ => fun
  | [d] => { results := [.lit (.bool false)], args := [d] }
  | _ => none }
def FnExactRoundsOfWrongFalsely : Prop := fnExactRoundsOfRow.holds Try.pinned (OpenSpec.ofChange fnExactRoundsOfWrong)

/-- 'laws.FnExactMulDepth': WHATEVER THE INPUT: true; the input reads as it did. -/
def fnExactMulDepthSpec : ChangeSpec := { name := "fnExactMulDepth", fn := fun _ => fun
  | [d] => { results := [.lit (.bool true)], args := [d] }
  | _ => none }
def fnExactMulDepthRow : OpenClaim := { program := "ytapljpcpmdlppaa", sum := "b1e917adc85b416ee8a2d91c6fa1803b870b42770513a0db817372b58d09c5b4", func := "loop.example/g00979/laws.FnExactMulDepth", spec := "fnExactMulDepth", apart := false }
def FnExactMulDepthSaid : Prop := fnExactMulDepthRow.holds Try.pinned (OpenSpec.ofChange fnExactMulDepthSpec)

/-- ITS FALSE NEIGHBOUR: 'it returns false'. Refute it at one input. -/
def fnExactMulDepthWrong : ChangeSpec := { name := "fnExactMulDepth", fn := fun _ => fun
  | [d] => { results := [.lit (.bool false)], args := [d] }
  | _ => none }
def FnExactMulDepthWrongFalsely : Prop := fnExactMulDepthRow.holds Try.pinned (OpenSpec.ofChange fnExactMulDepthWrong)

/-- 'laws.FnExactMulsAt': WHATEVER THE INPUT: true; the input reads as it did. -/
def fnExactMulsAtSpec : ChangeSpec := { name := "fnExactMulsAt", fn := fun _ => fun
  | [d1, d2] => { results := [.lit (.bool true)], args := [d1, d2] }
  | _ => none }
def fnExactMulsAtRow : OpenClaim := { program := "ytapljpcpmdlppaa", sum := "b1e917adc85b416ee8a2d91c6fa1803b870b42770513a0db817372b58d09c5b4", func := "loop.example/g00979/laws.FnExactMulsAt", spec := "fnExactMulsAt", apart := false }
def FnExactMulsAtSaid : Prop := fnExactMulsAtRow.holds Try.pinned (OpenSpec.ofChange fnExactMulsAtSpec)

/-- ITS FALSE NEIGHBOUR: 'it returns false'. Refute it at one input. -/
def fnExactMulsAtWrong : ChangeSpec := { name := "fnExactMulsAt", fn := fun _ => fun
  | [d1, d2] => { results := [.lit (.bool false)], args := [d1, d2] }
  | _ => none }
def FnExactMulsAtWrongFalsely : Prop := fnExactMulsAtRow.holds Try.pinned (OpenSpec.ofChange fnExactMulsAtWrong)

/-- 'laws.FnExactArithCost': WHATEVER THE INPUT: true; the input reads as it did. -/
def fnExactArithCostSpec : ChangeSpec := { name := "fnExactArithCost", fn := fun _ => fun
  | [d] => { results := [.lit (.bool true)], args := [d] }
  | _ => none }
def fnExactArithCostRow : OpenClaim := { program := "ytapljpcpmdlppaa", sum := "b1e917adc85b416ee8a2d91c6fa1803b870b42770513a0db817372b58d09c5b4", func := "loop.example/g00979/laws.FnExactArithCost", spec := "fnExactArithCost", apart := false }
def FnExactArithCostSaid : Prop := fnExactArithCostRow.holds Try.pinned (OpenSpec.ofChange fnExactArithCostSpec)

/-- ITS FALSE NEIGHBOUR: 'it returns false'. Refute it at one input. -/
def fnExactArithCostWrong : ChangeSpec := { name := "fnExactArithCost", fn := fun _ => fun
  | [d] => { results := [.lit (.bool false)], args := [d] }
  | _ => none }
def FnExactArithCostWrongFalsely : Prop := fnExactArithCostRow.holds Try.pinned (OpenSpec.ofChange fnExactArithCostWrong)

/-- 'laws.FnArithmetics': WHATEVER THE INPUT: true; the input reads as it did. -/
def fnArithmeticsSpec : ChangeSpec := { name := "fnArithmetics", fn := fun _ => fun
  | [d] => { results := [.lit (.bool true)], args := [d] }
  | _ => none }
def fnArithmeticsRow : OpenClaim := { program := "ytapljpcpmdlppaa", sum := "b1e917adc85b416ee8a2d91c6fa1803b870b42770513a0db817372b58d09c5b4", func := "loop.example/g00979/laws.FnArithmetics", spec := "fnArithmetics", apart := false }
def FnArithmeticsSaid : Prop := fnArithmeticsRow.holds Try.pinned (OpenSpec.ofChange fnArithmeticsSpec)

/-- ITS FALSE NEIGHBOUR: 'it returns false'. Refute it at one input. -/
def fnArithmeticsWrong : ChangeSpec := { name := "fnArithmetics", fn := fun _ => fun
  | [d] => { results := [.lit (.bool false)], args := [d] }
  | _ => none }
def FnArithmeticsWrongFalsely : Prop := fnArithmeticsRow.holds Try.pinned (OpenSpec.ofChange fnArithmeticsWrong)

/-- 'laws.FnExactEvalArith': WHATEVER THE INPUT: true; the input reads as it did. -/
def fnExactEvalArithSpec : ChangeSpec := { name := "fnExactEvalArith", fn := fun _ => fun
  | [d1, d2] => { results := [.lit (.bool true)], args := [d1, d2] }
  | _ => none }
def fnExactEvalArithRow : OpenClaim := { program := "ytapljpcpmdlppaa", sum := "b1e917adc85b416ee8a2d91c6fa1803b870b42770513a0db817372b58d09c5b4", func := "loop.example/g00979/laws.FnExactEvalArith", spec := "fnExactEvalArith", apart := false }
def FnExactEvalArithSaid : Prop := fnExactEvalArithRow.holds Try.pinned (OpenSpec.ofChange fnExactEvalArithSpec)

/-- ITS FALSE NEIGHBOUR: 'it returns false'. Refute it at one input. -/
def fnExactEvalArithWrong : ChangeSpec := { name := "fnExactEvalArith", fn := fun _ => fun
  | [d1, d2] => { results := [.lit (.bool false)], args := [d1, d2] }
  | _ => none }
def FnExactEvalArithWrongFalsely : Prop := fnExactEvalArithRow.holds Try.pinned (OpenSpec.ofChange fnExactEvalArithWrong)

/-- 'laws.FnExactEngineOk': WHATEVER THE INPUT: true; the input reads as it did. -/
def fnExactEngineOkSpec : ChangeSpec := { name := "fnExactEngineOk", fn := fun _ => fun
  | [d] => { results := [.lit (.bool true)], args := [d] }
  | _ => none }
def fnExactEngineOkRow : OpenClaim := { program := "ytapljpcpmdlppaa", sum := "b1e917adc85b416ee8a2d91c6fa1803b870b42770513a0db817372b58d09c5b4", func := "loop.example/g00979/laws.FnExactEngineOk", spec := "fnExactEngineOk", apart := false }
def FnExactEngineOkSaid : Prop := fnExactEngineOkRow.holds Try.pinned (OpenSpec.ofChange fnExactEngineOkSpec)

/-- ITS FALSE NEIGHBOUR: 'it returns false'. Refute it at one input. -/
def fnExactEngineOkWrong : ChangeSpec := { name := "fnExactEngineOk", fn := fun _ => fun
  | [d] => { results := [.lit (.bool false)], args := [d] }
  | _ => none }
def FnExactEngineOkWrongFalsely : Prop := fnExactEngineOkRow.holds Try.pinned (OpenSpec.ofChange fnExactEngineOkWrong)

/-- 'laws.FnExactEngineOutputs': WHATEVER THE INPUT: true; the input reads as it did. -/
def fnExactEngineOutputsSpec : ChangeSpec := { name := "fnExactEngineOutputs", fn := fun _ => fun
  | [d] => { results := [.lit (.bool true)], args := [d] }
  | _ => none }
def fnExactEngineOutputsRow : OpenClaim := { program := "ytapljpcpmdlppaa", sum := "b1e917adc85b416ee8a2d91c6fa1803b870b42770513a0db817372b58d09c5b4", func := "loop.example/g00979/laws.FnExactEngineOutputs", spec := "fnExactEngineOutputs", apart := false }
def FnExactEngineOutputsSaid : Prop := fnExactEngineOutputsRow.holds Try.pinned (OpenSpec.ofChange fnExactEngineOutputsSpec)

/-- ITS FALSE NEIGHBOUR: 'it returns false'. Refute it at one input. -/
def fnExactEngineOutputsWrong : ChangeSpec := { name := "fnExactEngineOutputs", fn := fun _ => fun
  | [d] => { results := [.lit (.bool false)], args := [d] }
  | _ => none }
def FnExactEngineOutputsWrongFalsely : Prop := fnExactEngineOutputsRow.holds Try.pinned (OpenSpec.ofChange fnExactEngineOutputsWrong)

/-- 'laws.FnCosts': WHATEVER THE INPUT: true; the input reads as it did. -/
def fnCostsSpec : ChangeSpec := { name := "fnCosts", fn := fun _ => fun
  | [d] => { results := [.lit (.bool true)], args := [d] }
  | _ => none }
def fnCostsRow : OpenClaim := { program := "ytapljpcpmdlppaa", sum := "b1e917adc85b416ee8a2d91c6fa1803b870b42770513a0db817372b58d09c5b4", func := "loop.example/g00979/laws.FnCosts", spec := "fnCosts", apart := false }
def FnCostsSaid : Prop := fnCostsRow.holds Try.pinned (OpenSpec.ofChange fnCostsSpec)

/-- ITS FALSE NEIGHBOUR: 'it returns false'. Refute it at one input. -/
def fnCostsWrong : ChangeSpec := { name := "fnCosts", fn := fun _ => fun
  | [d] => { results := [.lit (.bool false)], args := [d] }
  | _ => none }
def FnCostsWrongFalsely : Prop := fnCostsRow.holds Try.pinned (OpenSpec.ofChange fnCostsWrong)

/-- 'laws.FnOtherTapes': WHATEVER THE INPUT: true; the input reads as it did. -/
def fnOtherTapesSpec : ChangeSpec := { name := "fnOtherTapes", fn := fun _ => fun
  | [d] => { results := [.lit (.bool true)], args := [d] }
  | _ => none }
def fnOtherTapesRow : OpenClaim := { program := "ytapljpcpmdlppaa", sum := "b1e917adc85b416ee8a2d91c6fa1803b870b42770513a0db817372b58d09c5b4", func := "loop.example/g00979/laws.FnOtherTapes", spec := "fnOtherTapes", apart := false }
def FnOtherTapesSaid : Prop := fnOtherTapesRow.holds Try.pinned (OpenSpec.ofChange fnOtherTapesSpec)

/-- ITS FALSE NEIGHBOUR: 'it returns false'. Refute it at one input. -/
def fnOtherTapesWrong : ChangeSpec := { name := "fnOtherTapes", fn := fun _ => fun
  | [d] => { results := [.lit (.bool false)], args := [d] }
  | _ => none }
def FnOtherTapesWrongFalsely : Prop := fnOtherTapesRow.holds Try.pinned (OpenSpec.ofChange fnOtherTapesWrong)

/-- 'laws.FnEngine': WHATEVER THE INPUT: true; the input reads as it did. -/
def fnEngineSpec : ChangeSpec := { name := "fnEngine", fn := fun _ => fun
  | [d] => { results := [.lit (.bool true)], args := [d] }
  | _ => none }
def fnEngineRow : OpenClaim := { program := "ytapljpcpmdlppaa", sum := "b1e917adc85b416ee8a2d91c6fa1803b870b42770513a0db817372b58d09c5b4", func := "loop.example/g00979/laws.FnEngine", spec := "fnEngine", apart := false }
def FnEngineSaid : Prop := fnEngineRow.holds Try.pinned (OpenSpec.ofChange fnEngineSpec)

/-- ITS FALSE NEIGHBOUR: 'it returns false'. Refute it at one input. -/
def fnEngineWrong : ChangeSpec := { name := "fnEngine", fn := fun _ => fun
  | [d] => { results := [.lit (.bool false)], args := [d] }
  | _ => none }
def FnEngineWrongFalsely : Prop := fnEngineRow.holds Try.pinned (OpenSpec.ofChange fnEngineWrong)

/-- 'laws.FnRounds': WHATEVER THE INPUT: true; the input reads as it did. -/
def fnRoundsSpec : ChangeSpec := { name := "fnRounds", fn := fun _ => fun
  | [d] => { results := [.lit (.bool true)], args := [d] }
  | _ => none }
def fnRoundsRow : OpenClaim := { program := "ytapljpcpmdlppaa", sum := "b1e917adc85b416ee8a2d91c6fa1803b870b42770513a0db817372b58d09c5b4", func := "loop.example/g00979/laws.FnRounds", spec := "fnRounds", apart := false }
def FnRoundsSaid : Prop := fnRoundsRow.holds Try.pinned (OpenSpec.ofChange fnRoundsSpec)

/-- ITS FALSE NEIGHBOUR: 'it returns false'. Refute it at one input. -/
def fnRoundsWrong : ChangeSpec := { name := "fnRounds", fn := fun _ => fun
  | [d] => { results := [.lit (.bool false)], args := [d] }
  | _ => none }
def FnRoundsWrongFalsely : Prop := fnRoundsRow.holds Try.pinned (OpenSpec.ofChange fnRoundsWrong)

/-- 'laws.FnExactEngineNew': WHATEVER THE INPUT: true; the input reads as it did. -/
def fnExactEngineNewSpec : ChangeSpec := { name := "fnExactEngineNew", fn := fun _ => fun
  | [d1, d2, d3, d4] => { results := [.lit (.bool true)], args := [d1, d2, d3, d4] }
  | _ => none }
def fnExactEngineNewRow : OpenClaim := { program := "ytapljpcpmdlppaa", sum := "b1e917adc85b416ee8a2d91c6fa1803b870b42770513a0db817372b58d09c5b4", func := "loop.example/g00979/laws.FnExactEngineNew", spec := "fnExactEngineNew", apart := false }
def FnExactEngineNewSaid : Prop := fnExactEngineNewRow.holds Try.pinned (OpenSpec.ofChange fnExactEngineNewSpec)

/-- ITS FALSE NEIGHBOUR: 'it returns false'. Refute it at one input. -/
def fnExactEngineNewWrong : ChangeSpec := { name := "fnExactEngineNew", fn := fun _ => fun
  | [d1, d2, d3, d4] => { results := [.lit (.bool false)], args := [d1, d2, d3, d4] }
  | _ => none }
def FnExactEngineNewWrongFalsely : Prop := fnExactEngineNewRow.holds Try.pinned (OpenSpec.ofChange fnExactEngineNewWrong)

/-- 'laws.FnCheated': WHATEVER THE INPUT: true; the input reads as it did. -/
def fnCheatedSpec : ChangeSpec := { name := "fnCheated", fn := fun _ => fun
  | [d] => { results := [.lit (.bool true)], args := [d] }
  | _ => none }
def fnCheatedRow : OpenClaim := { program := "ytapljpcpmdlppaa", sum := "b1e917adc85b416ee8a2d91c6fa1803b870b42770513a0db817372b58d09c5b4", func := "loop.example/g00979/laws.FnCheated", spec := "fnCheated", apart := false }
def FnCheatedSaid : Prop := fnCheatedRow.holds Try.pinned (OpenSpec.ofChange fnCheatedSpec)

/-- ITS FALSE NEIGHBOUR: 'it returns false'. Refute it at one input. -/
def fnCheatedWrong : ChangeSpec := { name := "fnCheated", fn := fun _ => fun
  | [d] => { results := [.lit (.bool false)], args := [d] }
  | _ => none }
def FnCheatedWrongFalsely : Prop := fnCheatedRow.holds Try.pinned (OpenSpec.ofChange fnCheatedWrong)

/- THE SECOND FORM. 'bulk': how many values and letters a reading holds, each counted each time it is reached (what is shared counts as often as it is met; a slice's spare places count too). A statement '..UptoSaid' is the law's where the arguments, and the package variables that the reading takes, are together of bulk at most 1048576: NARROWER than '..Said'. Prove '..Said' where nothing that the law and all that it calls make is longer than what came in: it says more and counts as full. Else prove '..UptoSaid'. A law counts once. -/
mutual
def uptoBulk {H : Type} : DataW H → Nat
  | .lit (.string bytes) => bytes.length + 1
  | .lit _ => 1
  | .nil => 1
  | .ptr d => uptoBulk d + 1
  | .slice elems spare => uptoBulkAll elems + uptoBulkAll spare + 1
  | .agg parts => uptoBulkAll parts + 1
  | .iface _ d => uptoBulk d + 1
  | .map entries => uptoBulkEntries entries + 1
  | .held _ => 1
def uptoBulkAll {H : Type} : List (DataW H) → Nat
  | [] => 0
  | d :: r => uptoBulk d + uptoBulkAll r
def uptoBulkEntries {H : Type} : List (Lit × DataW H) → Nat
  | [] => 0
  | x :: r => uptoBulkEntry x + uptoBulkEntries r
def uptoBulkEntry {H : Type} : Lit × DataW H → Nat
  | (.string bytes, d) => bytes.length + uptoBulk d + 1
  | (_, d) => uptoBulk d + 1
 end
def uptoSmall : (H : Type) → List (DataW H) → Bool := fun _ ds => decide (uptoBulkAll ds ≤ 1048576)
def OpenSpec.upto (s : _root_.Go.ChangeSpec) : _root_.Go.OpenSpec := { _root_.Go.OpenSpec.ofChange s with cond := some uptoSmall }

/-- 'laws.FnExactCountMuls', WHERE WHAT IT READS IS OF BULK AT MOST 1048576: true; the input reads as it did. -/
def fnExactCountMulsUptoRow : OpenClaim := { program := "ytapljpcpmdlppaa", sum := "b1e917adc85b416ee8a2d91c6fa1803b870b42770513a0db817372b58d09c5b4", func := "loop.example/g00979/laws.FnExactCountMuls", spec := "fnExactCountMuls", apart := false, narrowed := true }
def FnExactCountMulsUptoSaid : Prop := fnExactCountMulsUptoRow.holds Try.pinned (OpenSpec.upto fnExactCountMulsSpec)

/-- 'laws.FnNoMuls', WHERE WHAT IT READS IS OF BULK AT MOST 1048576: true; the input reads as it did. -/
def fnNoMulsUptoRow : OpenClaim := { program := "ytapljpcpmdlppaa", sum := "b1e917adc85b416ee8a2d91c6fa1803b870b42770513a0db817372b58d09c5b4", func := "loop.example/g00979/laws.FnNoMuls", spec := "fnNoMuls", apart := false, narrowed := true }
def FnNoMulsUptoSaid : Prop := fnNoMulsUptoRow.holds Try.pinned (OpenSpec.upto fnNoMulsSpec)

/-- 'laws.FnExactUsedErrors', WHERE WHAT IT READS IS OF BULK AT MOST 1048576: true; the input reads as it did. -/
def fnExactUsedErrorsUptoRow : OpenClaim := { program := "ytapljpcpmdlppaa", sum := "b1e917adc85b416ee8a2d91c6fa1803b870b42770513a0db817372b58d09c5b4", func := "loop.example/g00979/laws.FnExactUsedErrors", spec := "fnExactUsedErrors", apart := false, narrowed := true }
def FnExactUsedErrorsUptoSaid : Prop := fnExactUsedErrorsUptoRow.holds Try.pinned (OpenSpec.upto fnExactUsedErrorsSpec)

/-- 'laws.FnExactArithOk', WHERE WHAT IT READS IS OF BULK AT MOST 1048576: true; the input reads as it did. -/
def fnExactArithOkUptoRow : OpenClaim := { program := "ytapljpcpmdlppaa", sum := "b1e917adc85b416ee8a2d91c6fa1803b870b42770513a0db817372b58d09c5b4", func := "loop.example/g00979/laws.FnExactArithOk", spec := "fnExactArithOk", apart := false, narrowed := true }
def FnExactArithOkUptoSaid : Prop := fnExactArithOkUptoRow.holds Try.pinned (OpenSpec.upto fnExactArithOkSpec)

/-- 'laws.FnExactRoundsOf', WHERE WHAT IT READS IS OF BULK AT MOST 1048576: true; the input reads as it did. -/
def fnExactRoundsOfUptoRow : OpenClaim := { program := "ytapljpcpmdlppaa", sum := "b1e917adc85b416ee8a2d91c6fa1803b870b42770513a0db817372b58d09c5b4", func := "loop.example/g00979/laws.FnExactRoundsOf", spec := "fnExactRoundsOf", apart := false, narrowed := true }
def FnExactRoundsOfUptoSaid : Prop := fnExactRoundsOfUptoRow.holds Try.pinned (OpenSpec.upto fnExactRoundsOfSpec)

/-- 'laws.FnExactMulDepth', WHERE WHAT IT READS IS OF BULK AT MOST 1048576: true; the input reads as it did. -/
def fnExactMulDepthUptoRow : OpenClaim := { program := "ytapljpcpmdlppaa", sum := "b1e917adc85b416ee8a2d91c6fa1803b870b42770513a0db817372b58d09c5b4", func := "loop.example/g00979/laws.FnExactMulDepth", spec := "fnExactMulDepth", apart := false, narrowed := true }
def FnExactMulDepthUptoSaid : Prop := fnExactMulDepthUptoRow.holds Try.pinned (OpenSpec.upto fnExactMulDepthSpec)

/-- 'laws.FnExactMulsAt', WHERE WHAT IT READS IS OF BULK AT MOST 1048576: true; the input reads as it did. -/
def fnExactMulsAtUptoRow : OpenClaim := { program := "ytapljpcpmdlppaa", sum := "b1e917adc85b416ee8a2d91c6fa1803b870b42770513a0db817372b58d09c5b4", func := "loop.example/g00979/laws.FnExactMulsAt", spec := "fnExactMulsAt", apart := false, narrowed := true }
def FnExactMulsAtUptoSaid : Prop := fnExactMulsAtUptoRow.holds Try.pinned (OpenSpec.upto fnExactMulsAtSpec)

/-- 'laws.FnExactArithCost', WHERE WHAT IT READS IS OF BULK AT MOST 1048576: true; the input reads as it did. -/
def fnExactArithCostUptoRow : OpenClaim := { program := "ytapljpcpmdlppaa", sum := "b1e917adc85b416ee8a2d91c6fa1803b870b42770513a0db817372b58d09c5b4", func := "loop.example/g00979/laws.FnExactArithCost", spec := "fnExactArithCost", apart := false, narrowed := true }
def FnExactArithCostUptoSaid : Prop := fnExactArithCostUptoRow.holds Try.pinned (OpenSpec.upto fnExactArithCostSpec)

/-- 'laws.FnArithmetics', WHERE WHAT IT READS IS OF BULK AT MOST 1048576: true; the input reads as it did. -/
def fnArithmeticsUptoRow : OpenClaim := { program := "ytapljpcpmdlppaa", sum := "b1e917adc85b416ee8a2d91c6fa1803b870b42770513a0db817372b58d09c5b4", func := "loop.example/g00979/laws.FnArithmetics", spec := "fnArithmetics", apart := false, narrowed := true }
def FnArithmeticsUptoSaid : Prop := fnArithmeticsUptoRow.holds Try.pinned (OpenSpec.upto fnArithmeticsSpec)

/-- 'laws.FnExactEvalArith', WHERE WHAT IT READS IS OF BULK AT MOST 1048576: true; the input reads as it did. -/
def fnExactEvalArithUptoRow : OpenClaim := { program := "ytapljpcpmdlppaa", sum := "b1e917adc85b416ee8a2d91c6fa1803b870b42770513a0db817372b58d09c5b4", func := "loop.example/g00979/laws.FnExactEvalArith", spec := "fnExactEvalArith", apart := false, narrowed := true }
def FnExactEvalArithUptoSaid : Prop := fnExactEvalArithUptoRow.holds Try.pinned (OpenSpec.upto fnExactEvalArithSpec)

/-- 'laws.FnExactEngineOk', WHERE WHAT IT READS IS OF BULK AT MOST 1048576: true; the input reads as it did. -/
def fnExactEngineOkUptoRow : OpenClaim := { program := "ytapljpcpmdlppaa", sum := "b1e917adc85b416ee8a2d91c6fa1803b870b42770513a0db817372b58d09c5b4", func := "loop.example/g00979/laws.FnExactEngineOk", spec := "fnExactEngineOk", apart := false, narrowed := true }
def FnExactEngineOkUptoSaid : Prop := fnExactEngineOkUptoRow.holds Try.pinned (OpenSpec.upto fnExactEngineOkSpec)

/-- 'laws.FnExactEngineOutputs', WHERE WHAT IT READS IS OF BULK AT MOST 1048576: true; the input reads as it did. -/
def fnExactEngineOutputsUptoRow : OpenClaim := { program := "ytapljpcpmdlppaa", sum := "b1e917adc85b416ee8a2d91c6fa1803b870b42770513a0db817372b58d09c5b4", func := "loop.example/g00979/laws.FnExactEngineOutputs", spec := "fnExactEngineOutputs", apart := false, narrowed := true }
def FnExactEngineOutputsUptoSaid : Prop := fnExactEngineOutputsUptoRow.holds Try.pinned (OpenSpec.upto fnExactEngineOutputsSpec)

/-- 'laws.FnCosts', WHERE WHAT IT READS IS OF BULK AT MOST 1048576: true; the input reads as it did. -/
def fnCostsUptoRow : OpenClaim := { program := "ytapljpcpmdlppaa", sum := "b1e917adc85b416ee8a2d91c6fa1803b870b42770513a0db817372b58d09c5b4", func := "loop.example/g00979/laws.FnCosts", spec := "fnCosts", apart := false, narrowed := true }
def FnCostsUptoSaid : Prop := fnCostsUptoRow.holds Try.pinned (OpenSpec.upto fnCostsSpec)

/-- 'laws.FnOtherTapes', WHERE WHAT IT READS IS OF BULK AT MOST 1048576: true; the input reads as it did. -/
def fnOtherTapesUptoRow : OpenClaim := { program := "ytapljpcpmdlppaa", sum := "b1e917adc85b416ee8a2d91c6fa1803b870b42770513a0db817372b58d09c5b4", func := "loop.example/g00979/laws.FnOtherTapes", spec := "fnOtherTapes", apart := false, narrowed := true }
def FnOtherTapesUptoSaid : Prop := fnOtherTapesUptoRow.holds Try.pinned (OpenSpec.upto fnOtherTapesSpec)

/-- 'laws.FnEngine', WHERE WHAT IT READS IS OF BULK AT MOST 1048576: true; the input reads as it did. -/
def fnEngineUptoRow : OpenClaim := { program := "ytapljpcpmdlppaa", sum := "b1e917adc85b416ee8a2d91c6fa1803b870b42770513a0db817372b58d09c5b4", func := "loop.example/g00979/laws.FnEngine", spec := "fnEngine", apart := false, narrowed := true }
def FnEngineUptoSaid : Prop := fnEngineUptoRow.holds Try.pinned (OpenSpec.upto fnEngineSpec)

/-- 'laws.FnRounds', WHERE WHAT IT READS IS OF BULK AT MOST 1048576: true; the input reads as it did. -/
def fnRoundsUptoRow : OpenClaim := { program := "ytapljpcpmdlppaa", sum := "b1e917adc85b416ee8a2d91c6fa1803b870b42770513a0db817372b58d09c5b4", func := "loop.example/g00979/laws.FnRounds", spec := "fnRounds", apart := false, narrowed := true }
def FnRoundsUptoSaid : Prop := fnRoundsUptoRow.holds Try.pinned (OpenSpec.upto fnRoundsSpec)

/-- 'laws.FnExactEngineNew', WHERE WHAT IT READS IS OF BULK AT MOST 1048576: true; the input reads as it did. -/
def fnExactEngineNewUptoRow : OpenClaim := { program := "ytapljpcpmdlppaa", sum := "b1e917adc85b416ee8a2d91c6fa1803b870b42770513a0db817372b58d09c5b4", func := "loop.example/g00979/laws.FnExactEngineNew", spec := "fnExactEngineNew", apart := false, narrowed := true }
def FnExactEngineNewUptoSaid : Prop := fnExactEngineNewUptoRow.holds Try.pinned (OpenSpec.upto fnExactEngineNewSpec)

/-- 'laws.FnCheated', WHERE WHAT IT READS IS OF BULK AT MOST 1048576: true; the input reads as it did. -/
def fnCheatedUptoRow : OpenClaim := { program := "ytapljpcpmdlppaa", sum := "b1e917adc85b416ee8a2d91c6fa1803b870b42770513a0db817372b58d09c5b4", func := "loop.example/g00979/laws.FnCheated", spec := "fnCheated", apart := false, narrowed := true }
def FnCheatedUptoSaid : Prop := fnCheatedUptoRow.holds Try.pinned (OpenSpec.upto fnCheatedSpec)

end Rows
end Go.Proofs.Ytapljpcpmdlppaa
