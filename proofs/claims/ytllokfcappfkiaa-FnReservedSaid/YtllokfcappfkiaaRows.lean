/-
  No cell of these rows narrows 'for every input' (looked for: loops, veiled, ifaces, maps, wideKeys, modest, calm, conditions, laid).
  DERIVED. THE GIVEN ROWS OF THIS SEAT. 22 by the template 'for every input the law returns true; each argument reads behind the call as it read before'; 0 by the template 'total and deterministic' (their statements: YtllokfcappfkiaaTotals.lean).
  GIVEN WITH THE SEED: the statements are not yours to turn. If you find one false, say at which input.
  Laid BY PROGRAM, IN A SANDBOX (cutbox-rows.mjs): the forced cells as the released guide's own fill.sh prints them over the translation 8d7897f9ea339c27… (all of the seat's roots in one cut). By AI agents, Wed Nov 11 2026. No macro, syntax, notation, axiom, sorry.
-/
import Derived.Test.YtllokfcappfkiaaChecked
import GoSem.Claim
import GoSem.ClaimJoined
import GoSem.ClaimMapViews
import Derived.JoinedTies
import Derived.KernelRfl
namespace Go.Proofs.Ytllokfcappfkiaa
/- THE CELL 'sum', in the pinned program and in every row, IS THE sha256 OF THE DUMP (.gsa) THAT YtllokfcappfkiaaProg.lean LOADS. Nothing in Lean hashes anything: it is a label: what it is worth is what the hold of that sum in a sandbox is worth. -/
noncomputable def Try.pinned : Pinned := { name := "ytllokfcappfkiaa", sum := "8d7897f9ea339c27626b77297f39496089c0c3aac632fb50beb8fea1a5b32bf0", checked := Try.checked }
namespace Rows
def none {H : Type} : Left H := { results := [], args := [] }

/-- 'laws.FnExactCostWithin': WHATEVER THE INPUT: true; the input reads as it did. -/
def fnExactCostWithinSpec : ChangeSpec := { name := "fnExactCostWithin", fn := fun _ => fun
  | [d1, d2] => { results := [.lit (.bool true)], args := [d1, d2] }
  | _ => none }
def fnExactCostWithinRow : OpenClaim := { program := "ytllokfcappfkiaa", sum := "8d7897f9ea339c27626b77297f39496089c0c3aac632fb50beb8fea1a5b32bf0", func := "loop.example/g00979/laws.FnExactCostWithin", spec := "fnExactCostWithin", apart := false }
def FnExactCostWithinSaid : Prop := fnExactCostWithinRow.holds Try.pinned (OpenSpec.ofChange fnExactCostWithinSpec)

/-- ITS FALSE NEIGHBOUR: 'it returns false'. Refute it at one input. -/
def fnExactCostWithinWrong : ChangeSpec := { name := "fnExactCostWithin", fn := fun _ => fun
  | [d1, d2] => { results := [.lit (.bool false)], args := [d1, d2] }
  | _ => none }
def FnExactCostWithinWrongFalsely : Prop := fnExactCostWithinRow.holds Try.pinned (OpenSpec.ofChange fnExactCostWithinWrong)

/-- 'laws.FnExactCountCaught': WHATEVER THE INPUT: true; the input reads as it did. -/
def fnExactCountCaughtSpec : ChangeSpec := { name := "fnExactCountCaught", fn := fun _ => fun
  | [d1, d2] => { results := [.lit (.bool true)], args := [d1, d2] }
  | _ => none }
def fnExactCountCaughtRow : OpenClaim := { program := "ytllokfcappfkiaa", sum := "8d7897f9ea339c27626b77297f39496089c0c3aac632fb50beb8fea1a5b32bf0", func := "loop.example/g00979/laws.FnExactCountCaught", spec := "fnExactCountCaught", apart := false }
def FnExactCountCaughtSaid : Prop := fnExactCountCaughtRow.holds Try.pinned (OpenSpec.ofChange fnExactCountCaughtSpec)

/-- ITS FALSE NEIGHBOUR: 'it returns false'. Refute it at one input. -/
def fnExactCountCaughtWrong : ChangeSpec := { name := "fnExactCountCaught", fn := fun _ => fun
  | [d1, d2] => { results := [.lit (.bool false)], args := [d1, d2] }
  | _ => none }
def FnExactCountCaughtWrongFalsely : Prop := fnExactCountCaughtRow.holds Try.pinned (OpenSpec.ofChange fnExactCountCaughtWrong)

/-- 'laws.FnExactAddCosts': WHATEVER THE INPUT: true; the input reads as it did. -/
def fnExactAddCostsSpec : ChangeSpec := { name := "fnExactAddCosts", fn := fun _ => fun
  | [d1, d2] => { results := [.lit (.bool true)], args := [d1, d2] }
  | _ => none }
def fnExactAddCostsRow : OpenClaim := { program := "ytllokfcappfkiaa", sum := "8d7897f9ea339c27626b77297f39496089c0c3aac632fb50beb8fea1a5b32bf0", func := "loop.example/g00979/laws.FnExactAddCosts", spec := "fnExactAddCosts", apart := false }
def FnExactAddCostsSaid : Prop := fnExactAddCostsRow.holds Try.pinned (OpenSpec.ofChange fnExactAddCostsSpec)

/-- ITS FALSE NEIGHBOUR: 'it returns false'. Refute it at one input. -/
def fnExactAddCostsWrong : ChangeSpec := { name := "fnExactAddCosts", fn := fun _ => fun
  | [d1, d2] => { results := [.lit (.bool false)], args := [d1, d2] }
  | _ => none }
def FnExactAddCostsWrongFalsely : Prop := fnExactAddCostsRow.holds Try.pinned (OpenSpec.ofChange fnExactAddCostsWrong)

/-- 'laws.FnExactAllZero': WHATEVER THE INPUT: true; the input reads as it did. -/
def fnExactAllZeroSpec : ChangeSpec := { name := "fnExactAllZero", fn := fun _ => fun
  | [d] => { results := [.lit (.bool true)], args := [d] }
  | _ => none }
def fnExactAllZeroRow : OpenClaim := { program := "ytllokfcappfkiaa", sum := "8d7897f9ea339c27626b77297f39496089c0c3aac632fb50beb8fea1a5b32bf0", func := "loop.example/g00979/laws.FnExactAllZero", spec := "fnExactAllZero", apart := false }
def FnExactAllZeroSaid : Prop := fnExactAllZeroRow.holds Try.pinned (OpenSpec.ofChange fnExactAllZeroSpec)

/-- ITS FALSE NEIGHBOUR: 'it returns false'. Refute it at one input. -/
def fnExactAllZeroWrong : ChangeSpec := { name := "fnExactAllZero", fn := fun _ => fun
  | [d] => { results := [.lit (.bool false)], args := [d] }
  | _ => none }
def FnExactAllZeroWrongFalsely : Prop := fnExactAllZeroRow.holds Try.pinned (OpenSpec.ofChange fnExactAllZeroWrong)

/-- 'laws.FnExactFieldBits': WHATEVER THE INPUT: true; the input reads as it did. -/
def fnExactFieldBitsSpec : ChangeSpec := { name := "fnExactFieldBits", fn := fun _ => fun
  | [d] => { results := [.lit (.bool true)], args := [d] }
  | _ => none }
def fnExactFieldBitsRow : OpenClaim := { program := "ytllokfcappfkiaa", sum := "8d7897f9ea339c27626b77297f39496089c0c3aac632fb50beb8fea1a5b32bf0", func := "loop.example/g00979/laws.FnExactFieldBits", spec := "fnExactFieldBits", apart := false }
def FnExactFieldBitsSaid : Prop := fnExactFieldBitsRow.holds Try.pinned (OpenSpec.ofChange fnExactFieldBitsSpec)

/-- ITS FALSE NEIGHBOUR: 'it returns false'. Refute it at one input. -/
def fnExactFieldBitsWrong : ChangeSpec := { name := "fnExactFieldBits", fn := fun _ => fun
  | [d] => { results := [.lit (.bool false)], args := [d] }
  | _ => none }
def FnExactFieldBitsWrongFalsely : Prop := fnExactFieldBitsRow.holds Try.pinned (OpenSpec.ofChange fnExactFieldBitsWrong)

/-- 'laws.FnExactPoolReserve': WHATEVER THE INPUT: true; the input reads as it did. -/
def fnExactPoolReserveSpec : ChangeSpec := { name := "fnExactPoolReserve", fn := fun _ => fun
  | [d1, d2] => { results := [.lit (.bool true)], args := [d1, d2] }
  | _ => none }
def fnExactPoolReserveRow : OpenClaim := { program := "ytllokfcappfkiaa", sum := "8d7897f9ea339c27626b77297f39496089c0c3aac632fb50beb8fea1a5b32bf0", func := "loop.example/g00979/laws.FnExactPoolReserve", spec := "fnExactPoolReserve", apart := false }
def FnExactPoolReserveSaid : Prop := fnExactPoolReserveRow.holds Try.pinned (OpenSpec.ofChange fnExactPoolReserveSpec)

/-- ITS FALSE NEIGHBOUR: 'it returns false'. Refute it at one input. -/
def fnExactPoolReserveWrong : ChangeSpec := { name := "fnExactPoolReserve", fn := fun _ => fun
  | [d1, d2] => { results := [.lit (.bool false)], args := [d1, d2] }
  | _ => none }
def FnExactPoolReserveWrongFalsely : Prop := fnExactPoolReserveRow.holds Try.pinned (OpenSpec.ofChange fnExactPoolReserveWrong)

/-- 'laws.FnExactBitsOf': WHATEVER THE INPUT: true; the input reads as it did. -/
def fnExactBitsOfSpec : ChangeSpec := { name := "fnExactBitsOf", fn := fun _ => fun
  | [d1, d2] => { results := [.lit (.bool true)], args := [d1, d2] }
  | _ => none }
def fnExactBitsOfRow : OpenClaim := { program := "ytllokfcappfkiaa", sum := "8d7897f9ea339c27626b77297f39496089c0c3aac632fb50beb8fea1a5b32bf0", func := "loop.example/g00979/laws.FnExactBitsOf", spec := "fnExactBitsOf", apart := false }
def FnExactBitsOfSaid : Prop := fnExactBitsOfRow.holds Try.pinned (OpenSpec.ofChange fnExactBitsOfSpec)

/-- ITS FALSE NEIGHBOUR: 'it returns false'. Refute it at one input. -/
def fnExactBitsOfWrong : ChangeSpec := { name := "fnExactBitsOf", fn := fun _ => fun
  | [d1, d2] => { results := [.lit (.bool false)], args := [d1, d2] }
  | _ => none }
def FnExactBitsOfWrongFalsely : Prop := fnExactBitsOfRow.holds Try.pinned (OpenSpec.ofChange fnExactBitsOfWrong)

/-- 'laws.FnUsedOnce': WHATEVER THE INPUT: true; the input reads as it did. -/
def fnUsedOnceSpec : ChangeSpec := { name := "fnUsedOnce", fn := fun _ => fun
  | [d] => { results := [.lit (.bool true)], args := [d] }
  | _ => none }
def fnUsedOnceRow : OpenClaim := { program := "ytllokfcappfkiaa", sum := "8d7897f9ea339c27626b77297f39496089c0c3aac632fb50beb8fea1a5b32bf0", func := "loop.example/g00979/laws.FnUsedOnce", spec := "fnUsedOnce", apart := false }
def FnUsedOnceSaid : Prop := fnUsedOnceRow.holds Try.pinned (OpenSpec.ofChange fnUsedOnceSpec)

/-- ITS FALSE NEIGHBOUR: 'it returns false'. Refute it at one input. -/
def fnUsedOnceWrong : ChangeSpec := { name := "fnUsedOnce", fn := fun _ => fun
  | [d] => { results := [.lit (.bool false)], args := [d] }
  | _ => none }
def FnUsedOnceWrongFalsely : Prop := fnUsedOnceRow.holds Try.pinned (OpenSpec.ofChange fnUsedOnceWrong)

/-- 'laws.FnSubsets': WHATEVER THE INPUT: true; the input reads as it did. -/
def fnSubsetsSpec : ChangeSpec := { name := "fnSubsets", fn := fun _ => fun
  | [d] => { results := [.lit (.bool true)], args := [d] }
  | _ => none }
def fnSubsetsRow : OpenClaim := { program := "ytllokfcappfkiaa", sum := "8d7897f9ea339c27626b77297f39496089c0c3aac632fb50beb8fea1a5b32bf0", func := "loop.example/g00979/laws.FnSubsets", spec := "fnSubsets", apart := false }
def FnSubsetsSaid : Prop := fnSubsetsRow.holds Try.pinned (OpenSpec.ofChange fnSubsetsSpec)

/-- ITS FALSE NEIGHBOUR: 'it returns false'. Refute it at one input. -/
def fnSubsetsWrong : ChangeSpec := { name := "fnSubsets", fn := fun _ => fun
  | [d] => { results := [.lit (.bool false)], args := [d] }
  | _ => none }
def FnSubsetsWrongFalsely : Prop := fnSubsetsRow.holds Try.pinned (OpenSpec.ofChange fnSubsetsWrong)

/-- 'laws.FnExactChosenBy': WHATEVER THE INPUT: true; the input reads as it did. -/
def fnExactChosenBySpec : ChangeSpec := { name := "fnExactChosenBy", fn := fun _ => fun
  | [d1, d2] => { results := [.lit (.bool true)], args := [d1, d2] }
  | _ => none }
def fnExactChosenByRow : OpenClaim := { program := "ytllokfcappfkiaa", sum := "8d7897f9ea339c27626b77297f39496089c0c3aac632fb50beb8fea1a5b32bf0", func := "loop.example/g00979/laws.FnExactChosenBy", spec := "fnExactChosenBy", apart := false }
def FnExactChosenBySaid : Prop := fnExactChosenByRow.holds Try.pinned (OpenSpec.ofChange fnExactChosenBySpec)

/-- ITS FALSE NEIGHBOUR: 'it returns false'. Refute it at one input. -/
def fnExactChosenByWrong : ChangeSpec := { name := "fnExactChosenBy", fn := fun _ => fun
  | [d1, d2] => { results := [.lit (.bool false)], args := [d1, d2] }
  | _ => none }
def FnExactChosenByWrongFalsely : Prop := fnExactChosenByRow.holds Try.pinned (OpenSpec.ofChange fnExactChosenByWrong)

/-- 'laws.FnExactPoolTake': WHATEVER THE INPUT: true; the input reads as it did. -/
def fnExactPoolTakeSpec : ChangeSpec := { name := "fnExactPoolTake", fn := fun _ => fun
  | [d1, d2] => { results := [.lit (.bool true)], args := [d1, d2] }
  | _ => none }
def fnExactPoolTakeRow : OpenClaim := { program := "ytllokfcappfkiaa", sum := "8d7897f9ea339c27626b77297f39496089c0c3aac632fb50beb8fea1a5b32bf0", func := "loop.example/g00979/laws.FnExactPoolTake", spec := "fnExactPoolTake", apart := false }
def FnExactPoolTakeSaid : Prop := fnExactPoolTakeRow.holds Try.pinned (OpenSpec.ofChange fnExactPoolTakeSpec)

/-- ITS FALSE NEIGHBOUR: 'it returns false'. Refute it at one input. -/
def fnExactPoolTakeWrong : ChangeSpec := { name := "fnExactPoolTake", fn := fun _ => fun
  | [d1, d2] => { results := [.lit (.bool false)], args := [d1, d2] }
  | _ => none }
def FnExactPoolTakeWrongFalsely : Prop := fnExactPoolTakeRow.holds Try.pinned (OpenSpec.ofChange fnExactPoolTakeWrong)

/-- 'laws.FnExactXorField': WHATEVER THE INPUT: true; the input reads as it did. -/
def fnExactXorFieldSpec : ChangeSpec := { name := "fnExactXorField", fn := fun _ => fun
  | [d1, d2, d3] => { results := [.lit (.bool true)], args := [d1, d2, d3] }
  | _ => none }
def fnExactXorFieldRow : OpenClaim := { program := "ytllokfcappfkiaa", sum := "8d7897f9ea339c27626b77297f39496089c0c3aac632fb50beb8fea1a5b32bf0", func := "loop.example/g00979/laws.FnExactXorField", spec := "fnExactXorField", apart := false }
def FnExactXorFieldSaid : Prop := fnExactXorFieldRow.holds Try.pinned (OpenSpec.ofChange fnExactXorFieldSpec)

/-- ITS FALSE NEIGHBOUR: 'it returns false'. Refute it at one input. -/
def fnExactXorFieldWrong : ChangeSpec := { name := "fnExactXorField", fn := fun _ => fun
  | [d1, d2, d3] => { results := [.lit (.bool false)], args := [d1, d2, d3] }
  | _ => none }
def FnExactXorFieldWrongFalsely : Prop := fnExactXorFieldRow.holds Try.pinned (OpenSpec.ofChange fnExactXorFieldWrong)

/-- 'laws.FnExactNumberOf': WHATEVER THE INPUT: true; the input reads as it did. -/
def fnExactNumberOfSpec : ChangeSpec := { name := "fnExactNumberOf", fn := fun _ => fun
  | [d] => { results := [.lit (.bool true)], args := [d] }
  | _ => none }
def fnExactNumberOfRow : OpenClaim := { program := "ytllokfcappfkiaa", sum := "8d7897f9ea339c27626b77297f39496089c0c3aac632fb50beb8fea1a5b32bf0", func := "loop.example/g00979/laws.FnExactNumberOf", spec := "fnExactNumberOf", apart := false }
def FnExactNumberOfSaid : Prop := fnExactNumberOfRow.holds Try.pinned (OpenSpec.ofChange fnExactNumberOfSpec)

/-- ITS FALSE NEIGHBOUR: 'it returns false'. Refute it at one input. -/
def fnExactNumberOfWrong : ChangeSpec := { name := "fnExactNumberOf", fn := fun _ => fun
  | [d] => { results := [.lit (.bool false)], args := [d] }
  | _ => none }
def FnExactNumberOfWrongFalsely : Prop := fnExactNumberOfRow.holds Try.pinned (OpenSpec.ofChange fnExactNumberOfWrong)

/-- 'laws.FnMajority': WHATEVER THE INPUT: true; the input reads as it did. -/
def fnMajoritySpec : ChangeSpec := { name := "fnMajority", fn := fun _ => fun
  | [d] => { results := [.lit (.bool true)], args := [d] }
  | _ => none }
def fnMajorityRow : OpenClaim := { program := "ytllokfcappfkiaa", sum := "8d7897f9ea339c27626b77297f39496089c0c3aac632fb50beb8fea1a5b32bf0", func := "loop.example/g00979/laws.FnMajority", spec := "fnMajority", apart := false }
def FnMajoritySaid : Prop := fnMajorityRow.holds Try.pinned (OpenSpec.ofChange fnMajoritySpec)

/-- ITS FALSE NEIGHBOUR: 'it returns false'. Refute it at one input. -/
def fnMajorityWrong : ChangeSpec := { name := "fnMajority", fn := fun _ => fun
  | [d] => { results := [.lit (.bool false)], args := [d] }
  | _ => none }
def FnMajorityWrongFalsely : Prop := fnMajorityRow.holds Try.pinned (OpenSpec.ofChange fnMajorityWrong)

/-- 'laws.FnReserved': WHATEVER THE INPUT: true; the input reads as it did. -/
def fnReservedSpec : ChangeSpec := { name := "fnReserved", fn := fun _ => fun
  | [d] => { results := [.lit (.bool true)], args := [d] }
  | _ => none }
def fnReservedRow : OpenClaim := { program := "ytllokfcappfkiaa", sum := "8d7897f9ea339c27626b77297f39496089c0c3aac632fb50beb8fea1a5b32bf0", func := "loop.example/g00979/laws.FnReserved", spec := "fnReserved", apart := false }
def FnReservedSaid : Prop := fnReservedRow.holds Try.pinned (OpenSpec.ofChange fnReservedSpec)

/-- ITS FALSE NEIGHBOUR: 'it returns false'. Refute it at one input. -/
def fnReservedWrong : ChangeSpec := { name := "fnReserved", fn := fun _ => fun
  | [d] => { results := [.lit (.bool false)], args := [d] }
  | _ => none }
def FnReservedWrongFalsely : Prop := fnReservedRow.holds Try.pinned (OpenSpec.ofChange fnReservedWrong)

/-- 'laws.FnExactTicketsDisjoint': WHATEVER THE INPUT: true; the input reads as it did. -/
def fnExactTicketsDisjointSpec : ChangeSpec := { name := "fnExactTicketsDisjoint", fn := fun _ => fun
  | [d] => { results := [.lit (.bool true)], args := [d] }
  | _ => none }
def fnExactTicketsDisjointRow : OpenClaim := { program := "ytllokfcappfkiaa", sum := "8d7897f9ea339c27626b77297f39496089c0c3aac632fb50beb8fea1a5b32bf0", func := "loop.example/g00979/laws.FnExactTicketsDisjoint", spec := "fnExactTicketsDisjoint", apart := false }
def FnExactTicketsDisjointSaid : Prop := fnExactTicketsDisjointRow.holds Try.pinned (OpenSpec.ofChange fnExactTicketsDisjointSpec)

/-- ITS FALSE NEIGHBOUR: 'it returns false'. Refute it at one input. -/
def fnExactTicketsDisjointWrong : ChangeSpec := { name := "fnExactTicketsDisjoint", fn := fun _ => fun
  | [d] => { results := [.lit (.bool false)], args := [d] }
  | _ => none }
def FnExactTicketsDisjointWrongFalsely : Prop := fnExactTicketsDisjointRow.holds Try.pinned (OpenSpec.ofChange fnExactTicketsDisjointWrong)

/-- 'laws.FnXorField': WHATEVER THE INPUT: true; the input reads as it did. -/
def fnXorFieldSpec : ChangeSpec := { name := "fnXorField", fn := fun _ => fun
  | [d] => { results := [.lit (.bool true)], args := [d] }
  | _ => none }
def fnXorFieldRow : OpenClaim := { program := "ytllokfcappfkiaa", sum := "8d7897f9ea339c27626b77297f39496089c0c3aac632fb50beb8fea1a5b32bf0", func := "loop.example/g00979/laws.FnXorField", spec := "fnXorField", apart := false }
def FnXorFieldSaid : Prop := fnXorFieldRow.holds Try.pinned (OpenSpec.ofChange fnXorFieldSpec)

/-- ITS FALSE NEIGHBOUR: 'it returns false'. Refute it at one input. -/
def fnXorFieldWrong : ChangeSpec := { name := "fnXorField", fn := fun _ => fun
  | [d] => { results := [.lit (.bool false)], args := [d] }
  | _ => none }
def FnXorFieldWrongFalsely : Prop := fnXorFieldRow.holds Try.pinned (OpenSpec.ofChange fnXorFieldWrong)

/-- 'laws.FnExactDotBits': WHATEVER THE INPUT: true; the input reads as it did. -/
def fnExactDotBitsSpec : ChangeSpec := { name := "fnExactDotBits", fn := fun _ => fun
  | [d1, d2] => { results := [.lit (.bool true)], args := [d1, d2] }
  | _ => none }
def fnExactDotBitsRow : OpenClaim := { program := "ytllokfcappfkiaa", sum := "8d7897f9ea339c27626b77297f39496089c0c3aac632fb50beb8fea1a5b32bf0", func := "loop.example/g00979/laws.FnExactDotBits", spec := "fnExactDotBits", apart := false }
def FnExactDotBitsSaid : Prop := fnExactDotBitsRow.holds Try.pinned (OpenSpec.ofChange fnExactDotBitsSpec)

/-- ITS FALSE NEIGHBOUR: 'it returns false'. Refute it at one input. -/
def fnExactDotBitsWrong : ChangeSpec := { name := "fnExactDotBits", fn := fun _ => fun
  | [d1, d2] => { results := [.lit (.bool false)], args := [d1, d2] }
  | _ => none }
def FnExactDotBitsWrongFalsely : Prop := fnExactDotBitsRow.holds Try.pinned (OpenSpec.ofChange fnExactDotBitsWrong)

/-- 'laws.FnExactXorAll': WHATEVER THE INPUT: true; the input reads as it did. -/
def fnExactXorAllSpec : ChangeSpec := { name := "fnExactXorAll", fn := fun _ => fun
  | [d1, d2] => { results := [.lit (.bool true)], args := [d1, d2] }
  | _ => none }
def fnExactXorAllRow : OpenClaim := { program := "ytllokfcappfkiaa", sum := "8d7897f9ea339c27626b77297f39496089c0c3aac632fb50beb8fea1a5b32bf0", func := "loop.example/g00979/laws.FnExactXorAll", spec := "fnExactXorAll", apart := false }
def FnExactXorAllSaid : Prop := fnExactXorAllRow.holds Try.pinned (OpenSpec.ofChange fnExactXorAllSpec)

/-- ITS FALSE NEIGHBOUR: 'it returns false'. Refute it at one input. -/
def fnExactXorAllWrong : ChangeSpec := { name := "fnExactXorAll", fn := fun _ => fun
  | [d1, d2] => { results := [.lit (.bool false)], args := [d1, d2] }
  | _ => none }
def FnExactXorAllWrongFalsely : Prop := fnExactXorAllRow.holds Try.pinned (OpenSpec.ofChange fnExactXorAllWrong)

/-- 'laws.FnConverted': WHATEVER THE INPUT: true; the input reads as it did. -/
def fnConvertedSpec : ChangeSpec := { name := "fnConverted", fn := fun _ => fun
  | [d] => { results := [.lit (.bool true)], args := [d] }
  | _ => none }
def fnConvertedRow : OpenClaim := { program := "ytllokfcappfkiaa", sum := "8d7897f9ea339c27626b77297f39496089c0c3aac632fb50beb8fea1a5b32bf0", func := "loop.example/g00979/laws.FnConverted", spec := "fnConverted", apart := false }
def FnConvertedSaid : Prop := fnConvertedRow.holds Try.pinned (OpenSpec.ofChange fnConvertedSpec)

/-- ITS FALSE NEIGHBOUR: 'it returns false'. Refute it at one input. -/
def fnConvertedWrong : ChangeSpec := { name := "fnConverted", fn := fun _ => fun
  | [d] => { results := [.lit (.bool false)], args := [d] }
  | _ => none }
def FnConvertedWrongFalsely : Prop := fnConvertedRow.holds Try.pinned (OpenSpec.ofChange fnConvertedWrong)

/-- 'laws.FnExactMajorityOf': WHATEVER THE INPUT: true; the input reads as it did. -/
def fnExactMajorityOfSpec : ChangeSpec := { name := "fnExactMajorityOf", fn := fun _ => fun
  | [d] => { results := [.lit (.bool true)], args := [d] }
  | _ => none }
def fnExactMajorityOfRow : OpenClaim := { program := "ytllokfcappfkiaa", sum := "8d7897f9ea339c27626b77297f39496089c0c3aac632fb50beb8fea1a5b32bf0", func := "loop.example/g00979/laws.FnExactMajorityOf", spec := "fnExactMajorityOf", apart := false }
def FnExactMajorityOfSaid : Prop := fnExactMajorityOfRow.holds Try.pinned (OpenSpec.ofChange fnExactMajorityOfSpec)

/-- ITS FALSE NEIGHBOUR: 'it returns false'. Refute it at one input. -/
def fnExactMajorityOfWrong : ChangeSpec := { name := "fnExactMajorityOf", fn := fun _ => fun
  | [d] => { results := [.lit (.bool false)], args := [d] }
  | _ => none }
def FnExactMajorityOfWrongFalsely : Prop := fnExactMajorityOfRow.holds Try.pinned (OpenSpec.ofChange fnExactMajorityOfWrong)

/-- 'laws.FnSharedBits': WHATEVER THE INPUT: true; the input reads as it did. -/
def fnSharedBitsSpec : ChangeSpec := { name := "fnSharedBits", fn := fun _ => fun
  | [d] => { results := [.lit (.bool true)], args := [d] }
  | _ => none }
def fnSharedBitsRow : OpenClaim := { program := "ytllokfcappfkiaa", sum := "8d7897f9ea339c27626b77297f39496089c0c3aac632fb50beb8fea1a5b32bf0", func := "loop.example/g00979/laws.FnSharedBits", spec := "fnSharedBits", apart := false }
def FnSharedBitsSaid : Prop := fnSharedBitsRow.holds Try.pinned (OpenSpec.ofChange fnSharedBitsSpec)

/-- ITS FALSE NEIGHBOUR: 'it returns false'. Refute it at one input. -/
def fnSharedBitsWrong : ChangeSpec := { name := "fnSharedBits", fn := fun _ => fun
  | [d] => { results := [.lit (.bool false)], args := [d] }
  | _ => none }
def FnSharedBitsWrongFalsely : Prop := fnSharedBitsRow.holds Try.pinned (OpenSpec.ofChange fnSharedBitsWrong)

/- THE SECOND FORM. 'bulk': how many values and letters a reading holds, each counted each time it is reached (what is shared counts as often as it is met; a slice's spare places count too). A statement '..UptoSaid' is the law's where the arguments, and the package variables that the reading takes, are together of bulk at most 1048576: NARROWER than '..Said'. Prove '..Said' where nothing that the law and all that it calls make is longer than what came in: it says more and counts as full. Else prove '..UptoSaid'. A law counts once. -/
mutual
def uptoBulk {H : Type} : DataW H → Nat
  | .lit (.string bytes) => bytes.length + 1
  | .lit _ => 1
  | .nil => 1
  | .ptr d => uptoBulk d + 1
  | .slice elems spare => uptoBulkAll elems + uptoBulkAll spare + 1
  | .agg parts => uptoBulkAll parts + 1
  | .iface _ d => uptoBulk d + 1
  | .map entries => uptoBulkEntries entries + 1
  | .held _ => 1
def uptoBulkAll {H : Type} : List (DataW H) → Nat
  | [] => 0
  | d :: r => uptoBulk d + uptoBulkAll r
def uptoBulkEntries {H : Type} : List (Lit × DataW H) → Nat
  | [] => 0
  | x :: r => uptoBulkEntry x + uptoBulkEntries r
def uptoBulkEntry {H : Type} : Lit × DataW H → Nat
  | (.string bytes, d) => bytes.length + uptoBulk d + 1
  | (_, d) => uptoBulk d + 1
 end
def uptoSmall : (H : Type) → List (DataW H) → Bool := fun _ ds => decide (uptoBulkAll ds ≤ 1048576)
def OpenSpec.upto (s : _root_.Go.ChangeSpec) : _root_.Go.OpenSpec := { _root_.Go.OpenSpec.ofChange s with cond := some uptoSmall }

/-- 'laws.FnExactCostWithin', WHERE WHAT IT READS IS OF BULK AT MOST 1048576: true; the input reads as it did. -/
def fnExactCostWithinUptoRow : OpenClaim := { program := "ytllokfcappfkiaa", sum := "8d7897f9ea339c27626b77297f39496089c0c3aac632fb50beb8fea1a5b32bf0", func := "loop.example/g00979/laws.FnExactCostWithin", spec := "fnExactCostWithin", apart := false, narrowed := true }
def FnExactCostWithinUptoSaid : Prop := fnExactCostWithinUptoRow.holds Try.pinned (OpenSpec.upto fnExactCostWithinSpec)

/-- 'laws.FnExactCountCaught', WHERE WHAT IT READS IS OF BULK AT MOST 1048576: true; the input reads as it did. -/
def fnExactCountCaughtUptoRow : OpenClaim := { program := "ytllokfcappfkiaa", sum := "8d7897f9ea339c27626b77297f39496089c0c3aac632fb50beb8fea1a5b32bf0", func := "loop.example/g00979/laws.FnExactCountCaught", spec := "fnExactCountCaught", apart := false, narrowed := true }
def FnExactCountCaughtUptoSaid : Prop := fnExactCountCaughtUptoRow.holds Try.pinned (OpenSpec.upto fnExactCountCaughtSpec)

/-- 'laws.FnExactAddCosts', WHERE WHAT IT READS IS OF BULK AT MOST 1048576: true; the input reads as it did. -/
def fnExactAddCostsUptoRow : OpenClaim := { program := "ytllokfcappfkiaa", sum := "8d7897f9ea339c27626b77297f39496089c0c3aac632fb50beb8fea1a5b32bf0", func := "loop.example/g00979/laws.FnExactAddCosts", spec := "fnExactAddCosts", apart := false, narrowed := true }
def FnExactAddCostsUptoSaid : Prop := fnExactAddCostsUptoRow.holds Try.pinned (OpenSpec.upto fnExactAddCostsSpec)

/-- 'laws.FnExactAllZero', WHERE WHAT IT READS IS OF BULK AT MOST 1048576: true; the input reads as it did. -/
def fnExactAllZeroUptoRow : OpenClaim := { program := "ytllokfcappfkiaa", sum := "8d7897f9ea339c27626b77297f39496089c0c3aac632fb50beb8fea1a5b32bf0", func := "loop.example/g00979/laws.FnExactAllZero", spec := "fnExactAllZero", apart := false, narrowed := true }
def FnExactAllZeroUptoSaid : Prop := fnExactAllZeroUptoRow.holds Try.pinned (OpenSpec.upto fnExactAllZeroSpec)

/-- 'laws.FnExactFieldBits', WHERE WHAT IT READS IS OF BULK AT MOST 1048576: true; the input reads as it did. -/
def fnExactFieldBitsUptoRow : OpenClaim := { program := "ytllokfcappfkiaa", sum := "8d7897f9ea339c27626b77297f39496089c0c3aac632fb50beb8fea1a5b32bf0", func := "loop.example/g00979/laws.FnExactFieldBits", spec := "fnExactFieldBits", apart := false, narrowed := true }
def FnExactFieldBitsUptoSaid : Prop := fnExactFieldBitsUptoRow.holds Try.pinned (OpenSpec.upto fnExactFieldBitsSpec)

/-- 'laws.FnExactPoolReserve', WHERE WHAT IT READS IS OF BULK AT MOST 1048576: true; the input reads as it did. -/
def fnExactPoolReserveUptoRow : OpenClaim := { program := "ytllokfcappfkiaa", sum := "8d7897f9ea339c27626b77297f39496089c0c3aac632fb50beb8fea1a5b32bf0", func := "loop.example/g00979/laws.FnExactPoolReserve", spec := "fnExactPoolReserve", apart := false, narrowed := true }
def FnExactPoolReserveUptoSaid : Prop := fnExactPoolReserveUptoRow.holds Try.pinned (OpenSpec.upto fnExactPoolReserveSpec)

/-- 'laws.FnExactBitsOf', WHERE WHAT IT READS IS OF BULK AT MOST 1048576: true; the input reads as it did. -/
def fnExactBitsOfUptoRow : OpenClaim := { program := "ytllokfcappfkiaa", sum := "8d7897f9ea339c27626b77297f39496089c0c3aac632fb50beb8fea1a5b32bf0", func := "loop.example/g00979/laws.FnExactBitsOf", spec := "fnExactBitsOf", apart := false, narrowed := true }
def FnExactBitsOfUptoSaid : Prop := fnExactBitsOfUptoRow.holds Try.pinned (OpenSpec.upto fnExactBitsOfSpec)

/-- 'laws.FnUsedOnce', WHERE WHAT IT READS IS OF BULK AT MOST 1048576: true; the input reads as it did. -/
def fnUsedOnceUptoRow : OpenClaim := { program := "ytllokfcappfkiaa", sum := "8d7897f9ea339c27626b77297f39496089c0c3aac632fb50beb8fea1a5b32bf0", func := "loop.example/g00979/laws.FnUsedOnce", spec := "fnUsedOnce", apart := false, narrowed := true }
def FnUsedOnceUptoSaid : Prop := fnUsedOnceUptoRow.holds Try.pinned (OpenSpec.upto fnUsedOnceSpec)

/-- 'laws.FnSubsets', WHERE WHAT IT READS IS OF BULK AT MOST 1048576: true; the input reads as it did. -/
def fnSubsetsUptoRow : OpenClaim := { program := "ytllokfcappfkiaa", sum := "8d7897f9ea339c27626b77297f39496089c0c3aac632fb50beb8fea1a5b32bf0", func := "loop.example/g00979/laws.FnSubsets", spec := "fnSubsets", apart := false, narrowed := true }
def FnSubsetsUptoSaid : Prop := fnSubsetsUptoRow.holds Try.pinned (OpenSpec.upto fnSubsetsSpec)

/-- 'laws.FnExactChosenBy', WHERE WHAT IT READS IS OF BULK AT MOST 1048576: true; the input reads as it did. -/
def fnExactChosenByUptoRow : OpenClaim := { program := "ytllokfcappfkiaa", sum := "8d7897f9ea339c27626b77297f39496089c0c3aac632fb50beb8fea1a5b32bf0", func := "loop.example/g00979/laws.FnExactChosenBy", spec := "fnExactChosenBy", apart := false, narrowed := true }
def FnExactChosenByUptoSaid : Prop := fnExactChosenByUptoRow.holds Try.pinned (OpenSpec.upto fnExactChosenBySpec)

/-- 'laws.FnExactPoolTake', WHERE WHAT IT READS IS OF BULK AT MOST 1048576: true; the input reads as it did. -/
def fnExactPoolTakeUptoRow : OpenClaim := { program := "ytllokfcappfkiaa", sum := "8d7897f9ea339c27626b77297f39496089c0c3aac632fb50beb8fea1a5b32bf0", func := "loop.example/g00979/laws.FnExactPoolTake", spec := "fnExactPoolTake", apart := false, narrowed := true }
def FnExactPoolTakeUptoSaid : Prop := fnExactPoolTakeUptoRow.holds Try.pinned (OpenSpec.upto fnExactPoolTakeSpec)

/-- 'laws.FnExactXorField', WHERE WHAT IT READS IS OF BULK AT MOST 1048576: true; the input reads as it did. -/
def fnExactXorFieldUptoRow : OpenClaim := { program := "ytllokfcappfkiaa", sum := "8d7897f9ea339c27626b77297f39496089c0c3aac632fb50beb8fea1a5b32bf0", func := "loop.example/g00979/laws.FnExactXorField", spec := "fnExactXorField", apart := false, narrowed := true }
def FnExactXorFieldUptoSaid : Prop := fnExactXorFieldUptoRow.holds Try.pinned (OpenSpec.upto fnExactXorFieldSpec)

/-- 'laws.FnExactNumberOf', WHERE WHAT IT READS IS OF BULK AT MOST 1048576: true; the input reads as it did. -/
def fnExactNumberOfUptoRow : OpenClaim := { program := "ytllokfcappfkiaa", sum := "8d7897f9ea339c27626b77297f39496089c0c3aac632fb50beb8fea1a5b32bf0", func := "loop.example/g00979/laws.FnExactNumberOf", spec := "fnExactNumberOf", apart := false, narrowed := true }
def FnExactNumberOfUptoSaid : Prop := fnExactNumberOfUptoRow.holds Try.pinned (OpenSpec.upto fnExactNumberOfSpec)

/-- 'laws.FnMajority', WHERE WHAT IT READS IS OF BULK AT MOST 1048576: true; the input reads as it did. -/
def fnMajorityUptoRow : OpenClaim := { program := "ytllokfcappfkiaa", sum := "8d7897f9ea339c27626b77297f39496089c0c3aac632fb50beb8fea1a5b32bf0", func := "loop.example/g00979/laws.FnMajority", spec := "fnMajority", apart := false, narrowed := true }
def FnMajorityUptoSaid : Prop := fnMajorityUptoRow.holds Try.pinned (OpenSpec.upto fnMajoritySpec)

/-- 'laws.FnReserved', WHERE WHAT IT READS IS OF BULK AT MOST 1048576: true; the input reads as it did. -/
def fnReservedUptoRow : OpenClaim := { program := "ytllokfcappfkiaa", sum := "8d7897f9ea339c27626b77297f39496089c0c3aac632fb50beb8fea1a5b32bf0", func := "loop.example/g00979/laws.FnReserved", spec := "fnReserved", apart := false, narrowed := true }
def FnReservedUptoSaid : Prop := fnReservedUptoRow.holds Try.pinned (OpenSpec.upto fnReservedSpec)

/-- 'laws.FnExactTicketsDisjoint', WHERE WHAT IT READS IS OF BULK AT MOST 1048576: true; the input reads as it did. -/
def fnExactTicketsDisjointUptoRow : OpenClaim := { program := "ytllokfcappfkiaa", sum := "8d7897f9ea339c27626b77297f39496089c0c3aac632fb50beb8fea1a5b32bf0", func := "loop.example/g00979/laws.FnExactTicketsDisjoint", spec := "fnExactTicketsDisjoint", apart := false, narrowed := true }
def FnExactTicketsDisjointUptoSaid : Prop := fnExactTicketsDisjointUptoRow.holds Try.pinned (OpenSpec.upto fnExactTicketsDisjointSpec)

/-- 'laws.FnXorField', WHERE WHAT IT READS IS OF BULK AT MOST 1048576: true; the input reads as it did. -/
def fnXorFieldUptoRow : OpenClaim := { program := "ytllokfcappfkiaa", sum := "8d7897f9ea339c27626b77297f39496089c0c3aac632fb50beb8fea1a5b32bf0", func := "loop.example/g00979/laws.FnXorField", spec := "fnXorField", apart := false, narrowed := true }
def FnXorFieldUptoSaid : Prop := fnXorFieldUptoRow.holds Try.pinned (OpenSpec.upto fnXorFieldSpec)

/-- 'laws.FnExactDotBits', WHERE WHAT IT READS IS OF BULK AT MOST 1048576: true; the input reads as it did. -/
def fnExactDotBitsUptoRow : OpenClaim := { program := "ytllokfcappfkiaa", sum := "8d7897f9ea339c27626b77297f39496089c0c3aac632fb50beb8fea1a5b32bf0", func := "loop.example/g00979/laws.FnExactDotBits", spec := "fnExactDotBits", apart := false, narrowed := true }
def FnExactDotBitsUptoSaid : Prop := fnExactDotBitsUptoRow.holds Try.pinned (OpenSpec.upto fnExactDotBitsSpec)

/-- 'laws.FnExactXorAll', WHERE WHAT IT READS IS OF BULK AT MOST 1048576: true; the input reads as it did. -/
def fnExactXorAllUptoRow : OpenClaim := { program := "ytllokfcappfkiaa", sum := "8d7897f9ea339c27626b77297f39496089c0c3aac632fb50beb8fea1a5b32bf0", func := "loop.example/g00979/laws.FnExactXorAll", spec := "fnExactXorAll", apart := false, narrowed := true }
def FnExactXorAllUptoSaid : Prop := fnExactXorAllUptoRow.holds Try.pinned (OpenSpec.upto fnExactXorAllSpec)

/-- 'laws.FnConverted', WHERE WHAT IT READS IS OF BULK AT MOST 1048576: true; the input reads as it did. -/
def fnConvertedUptoRow : OpenClaim := { program := "ytllokfcappfkiaa", sum := "8d7897f9ea339c27626b77297f39496089c0c3aac632fb50beb8fea1a5b32bf0", func := "loop.example/g00979/laws.FnConverted", spec := "fnConverted", apart := false, narrowed := true }
def FnConvertedUptoSaid : Prop := fnConvertedUptoRow.holds Try.pinned (OpenSpec.upto fnConvertedSpec)

/-- 'laws.FnExactMajorityOf', WHERE WHAT IT READS IS OF BULK AT MOST 1048576: true; the input reads as it did. -/
def fnExactMajorityOfUptoRow : OpenClaim := { program := "ytllokfcappfkiaa", sum := "8d7897f9ea339c27626b77297f39496089c0c3aac632fb50beb8fea1a5b32bf0", func := "loop.example/g00979/laws.FnExactMajorityOf", spec := "fnExactMajorityOf", apart := false, narrowed := true }
def FnExactMajorityOfUptoSaid : Prop := fnExactMajorityOfUptoRow.holds Try.pinned (OpenSpec.upto fnExactMajorityOfSpec)

/-- 'laws.FnSharedBits', WHERE WHAT IT READS IS OF BULK AT MOST 1048576: true; the input reads as it did. -/
def fnSharedBitsUptoRow : OpenClaim := { program := "ytllokfcappfkiaa", sum := "8d7897f9ea339c27626b77297f39496089c0c3aac632fb50beb8fea1a5b32bf0", func := "loop.example/g00979/laws.FnSharedBits", spec := "fnSharedBits", apart := false, narrowed := true }
def FnSharedBitsUptoSaid : Prop := fnSharedBitsUptoRow.holds Try.pinned (OpenSpec.upto fnSharedBitsSpec)

end Rows
end Go.Proofs.Ytllokfcappfkiaa
