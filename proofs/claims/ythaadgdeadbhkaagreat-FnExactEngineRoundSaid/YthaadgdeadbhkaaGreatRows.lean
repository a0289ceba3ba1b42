/-
  No cell of these rows narrows 'for every input' (looked for: loops, veiled, ifaces, maps, wideKeys, modest, calm, conditions, laid).
  DERIVED. THE GIVEN ROWS OF THIS SEAT. 4 by the template 'for every input the law returns true; each argument reads behind the call as it read before'; 0 by the template 'total and deterministic' (their statements: YthaadgdeadbhkaaGreatTotals.lean).
  GIVEN WITH THE SEED: the statements are not yours to turn. If you find one false, say at which input.
  Laid BY PROGRAM, IN A SANDBOX (cutbox-rows.mjs): the forced cells as the released guide's own fill.sh prints them over the translation 43b30f8aac010022… (all of the seat's roots in one cut). By AI agents, Wed Nov 11 2026. No macro, syntax, notation, axiom, sorry.
-/
import Derived.Test.YthaadgdeadbhkaaGreatChecked
import GoSem.Claim
import GoSem.ClaimJoined
import GoSem.ClaimMapViews
import Derived.JoinedTies
import Derived.KernelRfl
namespace Go.Proofs.YthaadgdeadbhkaaGreat
/- THE CELL 'sum', in the pinned program and in every row, IS THE sha256 OF THE DUMP (.gsa) THAT YthaadgdeadbhkaaGreatProg.lean LOADS. Nothing in Lean hashes anything: it is a label: what it is worth is what the hold of that sum in a sandbox is worth. -/
noncomputable def Tryz.pinned : Pinned := { name := "ythaadgdeadbhkaagreat", sum := "43b30f8aac0100225294cfbc82440ca3627968e9ece0aadd84a2a2273901f45f", checked := Tryz.checked }
namespace Rows
def none {H : Type} : Left H := { results := [], args := [] }

/-- 'laws.FnExactEngineRun': WHATEVER THE INPUT: true; the input reads as it did. -/
def fnExactEngineRunSpec : ChangeSpec := { name := "fnExactEngineRun", fn := fun _ => fun
  | [d1, d2, d3, d4, d5] => { results := [.lit (.bool true)], args := [d1, d2, d3, d4, d5] }
  | _ => none }
def fnExactEngineRunRow : OpenClaim := { program := "ythaadgdeadbhkaagreat", sum := "43b30f8aac0100225294cfbc82440ca3627968e9ece0aadd84a2a2273901f45f", func := "loop.example/g00979/laws.FnExactEngineRun", spec := "fnExactEngineRun", apart := false }
def FnExactEngineRunSaid : Prop := fnExactEngineRunRow.holds Tryz.pinned (OpenSpec.ofChange fnExactEngineRunSpec)

/-- ITS FALSE NEIGHBOUR: 'it returns false'. Refute it at one input. -/
def fnExactEngineRunWrong : ChangeSpec := { name := "fnExactEngineRun", fn := fun _ => fun
  | [d1, d2, d3, d4, d5] => { results := [.lit (.bool false)], args := [d1, d2, d3, d4, d5] }
  | _ => none }
def FnExactEngineRunWrongFalsely : Prop := fnExactEngineRunRow.holds Tryz.pinned (OpenSpec.ofChange fnExactEngineRunWrong)

/-- 'laws.FnExactEngineRound': WHATEVER THE INPUT: true; the input reads as it did. -/
def fnExactEngineRoundSpec : ChangeSpec := { name := "fnExactEngineRound", fn := fun _ => fun
  | [d1, d2, d3] => { results := [.lit (.bool true)], args := [d1, d2, d3] }
  | _ => none }
def fnExactEngineRoundRow : OpenClaim := { program := "ythaadgdeadbhkaagreat", sum := "43b30f8aac0100225294cfbc82440ca3627968e9ece0aadd84a2a2273901f45f", func := "loop.example/g00979/laws.FnExactEngineRound", spec := "fnExactEngineRound", apart := false }
def FnExactEngineRoundSaid : Prop := fnExactEngineRoundRow.holds Tryz.pinned (OpenSpec.ofChange fnExactEngineRoundSpec)

/-- ITS FALSE NEIGHBOUR: 'it returns false'. Refute it at one input. -/
def fnExactEngineRoundWrong : ChangeSpec := { name := "fnExactEngineRound", fn := fun _ => fun
  | [d1, d2, d3] => { results := [.lit (.bool false)], args := [d1, d2, d3] }
  | _ => none }
def FnExactEngineRoundWrongFalsely : Prop := fnExactEngineRoundRow.holds Tryz.pinned (OpenSpec.ofChange fnExactEngineRoundWrong)

/-- 'laws.FnExactOutcomeOf': WHATEVER THE INPUT: true; the input reads as it did. -/
def fnExactOutcomeOfSpec : ChangeSpec := { name := "fnExactOutcomeOf", fn := fun _ => fun
  | [d1, d2, d3, d4, d5] => { results := [.lit (.bool true)], args := [d1, d2, d3, d4, d5] }
  | _ => none }
def fnExactOutcomeOfRow : OpenClaim := { program := "ythaadgdeadbhkaagreat", sum := "43b30f8aac0100225294cfbc82440ca3627968e9ece0aadd84a2a2273901f45f", func := "loop.example/g00979/laws.FnExactOutcomeOf", spec := "fnExactOutcomeOf", apart := false }
def FnExactOutcomeOfSaid : Prop := fnExactOutcomeOfRow.holds Tryz.pinned (OpenSpec.ofChange fnExactOutcomeOfSpec)

/-- ITS FALSE NEIGHBOUR: 'it returns false'. Refute it at one input. -/
def fnExactOutcomeOfWrong : ChangeSpec := { name := "fnExactOutcomeOf", fn := fun _ => fun
  | [d1, d2, d3, d4, d5] => { results := [.lit (.bool false)], args := [d1, d2, d3, d4, d5] }
  | _ => none }
def FnExactOutcomeOfWrongFalsely : Prop := fnExactOutcomeOfRow.holds Tryz.pinned (OpenSpec.ofChange fnExactOutcomeOfWrong)

/-- 'laws.FnExactCountOutcomes': WHATEVER THE INPUT: true; the input reads as it did. -/
def fnExactCountOutcomesSpec : ChangeSpec := { name := "fnExactCountOutcomes", fn := fun _ => fun
  | [d1, d2, d3, d4] => { results := [.lit (.bool true)], args := [d1, d2, d3, d4] }
  | _ => none }
def fnExactCountOutcomesRow : OpenClaim := { program := "ythaadgdeadbhkaagreat", sum := "43b30f8aac0100225294cfbc82440ca3627968e9ece0aadd84a2a2273901f45f", func := "loop.example/g00979/laws.FnExactCountOutcomes", spec := "fnExactCountOutcomes", apart := false }
def FnExactCountOutcomesSaid : Prop := fnExactCountOutcomesRow.holds Tryz.pinned (OpenSpec.ofChange fnExactCountOutcomesSpec)

/-- ITS FALSE NEIGHBOUR: 'it returns false'. Refute it at one input. -/
def fnExactCountOutcomesWrong : ChangeSpec := { name := "fnExactCountOutcomes", fn := fun _ => fun
  | [d1, d2, d3, d4] => { results := [.lit (.bool false)], args := [d1, d2, d3, d4] }
  | _ => none }
def FnExactCountOutcomesWrongFalsely : Prop := fnExactCountOutcomesRow.holds Tryz.pinned (OpenSpec.ofChange fnExactCountOutcomesWrong)

/- THE SECOND FORM. 'bulk': how many values and letters a reading holds, each counted each time it is reached (what is shared counts as often as it is met; a slice's spare places count too). A statement '..UptoSaid' is the law's where the arguments, and the package variables that the reading takes, are together of bulk at most 1048576: NARROWER than '..Said'. Prove '..Said' where nothing that the law and all that it calls make is longer than what came in: it says more and counts as full. Else prove '..UptoSaid'. A law counts once. -/
mutual
def uptoBulk {H : Type} : DataW H → Nat
  | .lit (.string bytes) => bytes.length + 1
  | .lit _ => 1
  | .nil => 1
  | .ptr d => uptoBulk d + 1
  | .slice elems spare => uptoBulkAll elems + uptoBulkAll spare + 1
  | .agg parts => uptoBulkAll parts + 1
  | .iface _ d => uptoBulk d + 1
  | .map entries => uptoBulkEntries entries + 1
  | .held _ => 1
def uptoBulkAll {H : Type} : List (DataW H) → Nat
  | [] => 0
  | d :: r => uptoBulk d + uptoBulkAll r
def uptoBulkEntries {H : Type} : List (Lit × DataW H) → Nat
  | [] => 0
  | x :: r => uptoBulkEntry x + uptoBulkEntries r
def uptoBulkEntry {H : Type} : Lit × DataW H → Nat
  | (.string bytes, d) => bytes.length + uptoBulk d + 1
  | (_, d) => uptoBulk d + 1
 end
def uptoSmall : (H : Type) → List (DataW H) → Bool := fun _ ds => decide (uptoBulkAll ds ≤ 1048576)
def OpenSpec.upto (s : _root_.Go.ChangeSpec) : _root_.Go.OpenSpec := { _root_.Go.OpenSpec.ofChange s with cond := some uptoSmall }

/-- 'laws.FnExactEngineRun', WHERE WHAT IT READS IS OF BULK AT MOST 1048576: true; the input reads as it did. -/
def fnExactEngineRunUptoRow : OpenClaim := { program := "ythaadgdeadbhkaagreat", sum := "43b30f8aac0100225294cfbc82440ca3627968e9ece0aadd84a2a2273901f45f", func := "loop.example/g00979/laws.FnExactEngineRun", spec := "fnExactEngineRun", apart := false, narrowed := true }
def FnExactEngineRunUptoSaid : Prop := fnExactEngineRunUptoRow.holds Tryz.pinned (OpenSpec.upto fnExactEngineRunSpec)

/-- 'laws.FnExactEngineRound', WHERE WHAT IT READS IS OF BULK AT MOST 1048576: true; the input reads as it did. -/
def fnExactEngineRoundUptoRow : OpenClaim := { program := "ythaadgdeadbhkaagreat", sum := "43b30f8aac0100225294cfbc82440ca3627968e9ece0aadd84a2a2273901f45f", func := "loop.example/g00979/laws.FnExactEngineRound", spec := "fnExactEngineRound", apart := false, narrowed := true }
def FnExactEngineRoundUptoSaid : Prop := fnExactEngineRoundUptoRow.holds Tryz.pinned (OpenSpec.upto fnExactEngineRoundSpec)

/-- 'laws.FnExactOutcomeOf', WHERE WHAT IT READS IS OF BULK AT MOST 1048576: true; the input reads as it did. -/
def fnExactOutcomeOfUptoRow : OpenClaim := { program := "ythaadgdeadbhkaagreat", sum := "43b30f8aac0100225294cfbc82440ca3627968e9ece0aadd84a2a2273901f45f", func := "loop.example/g00979/laws.FnExactOutcomeOf", spec := "fnExactOutcomeOf", apart := false, narrowed := true }
def FnExactOutcomeOfUptoSaid : Prop := fnExactOutcomeOfUptoRow.holds Tryz.pinned (OpenSpec.upto fnExactOutcomeOfSpec)

/-- 'laws.FnExactCountOutcomes', WHERE WHAT IT READS IS OF BULK AT MOST 1048576: true; the input reads as it did. -/
def fnExactCountOutcomesUptoRow : OpenClaim := { program := "ythaadgdeadbhkaagreat", sum := "43b30f8aac0100225294cfbc82440ca3627968e9ece0aadd84a2a2273901f45f", func := "loop.example/g00979/laws.FnExactCountOutcomes", spec := "fnExactCountOutcomes", apart := false, narrowed := true }
def FnExactCountOutcomesUptoSaid : Prop := fnExactCountOutcomesUptoRow.holds Tryz.pinned (OpenSpec.upto fnExactCountOutcomesSpec)

end Rows
end Go.Proofs.YthaadgdeadbhkaaGreat
