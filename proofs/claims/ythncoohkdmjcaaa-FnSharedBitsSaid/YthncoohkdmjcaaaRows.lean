/-
  No cell of these rows narrows 'for every input' (looked for: loops, veiled, ifaces, maps, wideKeys, modest, calm, conditions, laid).
  DERIVED. THE GIVEN ROWS OF THIS SEAT. 13 by the template 'for every input the law returns true; each argument reads behind the call as it read before'; 0 by the template 'total and deterministic' (their statements: YthncoohkdmjcaaaTotals.lean).
  GIVEN WITH THE SEED: the statements are not yours to turn. If you find one false, say at which input.
  Laid BY PROGRAM, IN A SANDBOX (cutbox-rows.mjs): the forced cells as the released guide's own fill.sh prints them over the translation 59d48ab4cc7fde46… (all of the seat's roots in one cut). By AI agents, Wed Nov 11 2026. No macro, syntax, notation, axiom, sorry.
-/
import Derived.Test.YthncoohkdmjcaaaChecked
import GoSem.Claim
import GoSem.ClaimJoined
import GoSem.ClaimMapViews
import Derived.JoinedTies
import Derived.KernelRfl
namespace Go.Proofs.Ythncoohkdmjcaaa
/- THE CELL 'sum', in the pinned program and in every row, IS THE sha256 OF THE DUMP (.gsa) THAT YthncoohkdmjcaaaProg.lean LOADS. Nothing in Lean hashes anything: it is a label: what it is worth is what the hold of that sum in a sandbox is worth. -/
noncomputable def Try.pinned : Pinned := { name := "ythncoohkdmjcaaa", sum := "59d48ab4cc7fde46fcaf9e72a8e0961cd6ea79e5cc4c6787bd40b7d3a8727d90", checked := Try.checked }
namespace Rows
def none {H : Type} : Left H := { results := [], args := [] }

/-- 'laws.FnExactOramPath': WHATEVER THE INPUT: true; the input reads as it did. -/
def fnExactOramPathSpec : ChangeSpec := { name := "fnExactOramPath", fn := fun _ => fun
  | [d] => { results := [.lit (.bool true)], args := [d] }
  | _ => none }
def fnExactOramPathRow : OpenClaim := { program := "ythncoohkdmjcaaa", sum := "59d48ab4cc7fde46fcaf9e72a8e0961cd6ea79e5cc4c6787bd40b7d3a8727d90", func := "loop.example/g00979/laws.FnExactOramPath", spec := "fnExactOramPath", apart := false }
def FnExactOramPathSaid : Prop := fnExactOramPathRow.holds Try.pinned (OpenSpec.ofChange fnExactOramPathSpec)

/-- ITS FALSE NEIGHBOUR: 'it returns false'. Refute it at one input. -/
def fnExactOramPathWrong : ChangeSpec := { name := "fnExactOramPath", fn := fun _ => fun
  | [d] => { results := [.lit (.bool false)], args := [d] }
  | _ => none }
def FnExactOramPathWrongFalsely : Prop := fnExactOramPathRow.holds Try.pinned (OpenSpec.ofChange fnExactOramPathWrong)

/-- 'laws.FnExactOramSizes': WHATEVER THE INPUT: true; the input reads as it did. -/
def fnExactOramSizesSpec : ChangeSpec := { name := "fnExactOramSizes", fn := fun _ => fun
  | [d] => { results := [.lit (.bool true)], args := [d] }
  | _ => none }
def fnExactOramSizesRow : OpenClaim := { program := "ythncoohkdmjcaaa", sum := "59d48ab4cc7fde46fcaf9e72a8e0961cd6ea79e5cc4c6787bd40b7d3a8727d90", func := "loop.example/g00979/laws.FnExactOramSizes", spec := "fnExactOramSizes", apart := false }
def FnExactOramSizesSaid : Prop := fnExactOramSizesRow.holds Try.pinned (OpenSpec.ofChange fnExactOramSizesSpec)

/-- ITS FALSE NEIGHBOUR: 'it returns false'. Refute it at one input. -/
def fnExactOramSizesWrong : ChangeSpec := { name := "fnExactOramSizes", fn := fun _ => fun
  | [d] => { results := [.lit (.bool false)], args := [d] }
  | _ => none }
def FnExactOramSizesWrongFalsely : Prop := fnExactOramSizesRow.holds Try.pinned (OpenSpec.ofChange fnExactOramSizesWrong)

/-- 'laws.FnExactOramNew': WHATEVER THE INPUT: true; the input reads as it did. -/
def fnExactOramNewSpec : ChangeSpec := { name := "fnExactOramNew", fn := fun _ => fun
  | [d] => { results := [.lit (.bool true)], args := [d] }
  | _ => none }
def fnExactOramNewRow : OpenClaim := { program := "ythncoohkdmjcaaa", sum := "59d48ab4cc7fde46fcaf9e72a8e0961cd6ea79e5cc4c6787bd40b7d3a8727d90", func := "loop.example/g00979/laws.FnExactOramNew", spec := "fnExactOramNew", apart := false }
def FnExactOramNewSaid : Prop := fnExactOramNewRow.holds Try.pinned (OpenSpec.ofChange fnExactOramNewSpec)

/-- ITS FALSE NEIGHBOUR: 'it returns false'. Refute it at one input. -/
def fnExactOramNewWrong : ChangeSpec := { name := "fnExactOramNew", fn := fun _ => fun
  | [d] => { results := [.lit (.bool false)], args := [d] }
  | _ => none }
def FnExactOramNewWrongFalsely : Prop := fnExactOramNewRow.holds Try.pinned (OpenSpec.ofChange fnExactOramNewWrong)

/-- 'laws.FnExactOramOk': WHATEVER THE INPUT: true; the input reads as it did. -/
def fnExactOramOkSpec : ChangeSpec := { name := "fnExactOramOk", fn := fun _ => fun
  | [d] => { results := [.lit (.bool true)], args := [d] }
  | _ => none }
def fnExactOramOkRow : OpenClaim := { program := "ythncoohkdmjcaaa", sum := "59d48ab4cc7fde46fcaf9e72a8e0961cd6ea79e5cc4c6787bd40b7d3a8727d90", func := "loop.example/g00979/laws.FnExactOramOk", spec := "fnExactOramOk", apart := false }
def FnExactOramOkSaid : Prop := fnExactOramOkRow.holds Try.pinned (OpenSpec.ofChange fnExactOramOkSpec)

/-- ITS FALSE NEIGHBOUR: 'it returns false'. Refute it at one input. -/
def fnExactOramOkWrong : ChangeSpec := { name := "fnExactOramOk", fn := fun _ => fun
  | [d] => { results := [.lit (.bool false)], args := [d] }
  | _ => none }
def FnExactOramOkWrongFalsely : Prop := fnExactOramOkRow.holds Try.pinned (OpenSpec.ofChange fnExactOramOkWrong)

/-- 'laws.FnExactOramValue': WHATEVER THE INPUT: true; the input reads as it did. -/
def fnExactOramValueSpec : ChangeSpec := { name := "fnExactOramValue", fn := fun _ => fun
  | [d1, d2] => { results := [.lit (.bool true)], args := [d1, d2] }
  | _ => none }
def fnExactOramValueRow : OpenClaim := { program := "ythncoohkdmjcaaa", sum := "59d48ab4cc7fde46fcaf9e72a8e0961cd6ea79e5cc4c6787bd40b7d3a8727d90", func := "loop.example/g00979/laws.FnExactOramValue", spec := "fnExactOramValue", apart := false }
def FnExactOramValueSaid : Prop := fnExactOramValueRow.holds Try.pinned (OpenSpec.ofChange fnExactOramValueSpec)

/-- ITS FALSE NEIGHBOUR: 'it returns false'. Refute it at one input. -/
def fnExactOramValueWrong : ChangeSpec := { name := "fnExactOramValue", fn := fun _ => fun
  | [d1, d2] => { results := [.lit (.bool false)], args := [d1, d2] }
  | _ => none }
def FnExactOramValueWrongFalsely : Prop := fnExactOramValueRow.holds Try.pinned (OpenSpec.ofChange fnExactOramValueWrong)

/-- 'laws.FnPaths': WHATEVER THE INPUT: true; the input reads as it did. -/
def fnPathsSpec : ChangeSpec := { name := "fnPaths", fn := fun _ => fun
  | [d] => { results := [.lit (.bool true)], args := [d] }
  | _ => none }
def fnPathsRow : OpenClaim := { program := "ythncoohkdmjcaaa", sum := "59d48ab4cc7fde46fcaf9e72a8e0961cd6ea79e5cc4c6787bd40b7d3a8727d90", func := "loop.example/g00979/laws.FnPaths", spec := "fnPaths", apart := false }
def FnPathsSaid : Prop := fnPathsRow.holds Try.pinned (OpenSpec.ofChange fnPathsSpec)

/-- ITS FALSE NEIGHBOUR: 'it returns false'. Refute it at one input. -/
def fnPathsWrong : ChangeSpec := { name := "fnPaths", fn := fun _ => fun
  | [d] => { results := [.lit (.bool false)], args := [d] }
  | _ => none }
def FnPathsWrongFalsely : Prop := fnPathsRow.holds Try.pinned (OpenSpec.ofChange fnPathsWrong)

/-- 'laws.FnBlocks': WHATEVER THE INPUT: true; the input reads as it did. -/
def fnBlocksSpec : ChangeSpec := { name := "fnBlocks", fn := fun _ => fun
  | [d] => { results := [.lit (.bool true)], args := [d] }
  | _ => none }
def fnBlocksRow : OpenClaim := { program := "ythncoohkdmjcaaa", sum := "59d48ab4cc7fde46fcaf9e72a8e0961cd6ea79e5cc4c6787bd40b7d3a8727d90", func := "loop.example/g00979/laws.FnBlocks", spec := "fnBlocks", apart := false }
def FnBlocksSaid : Prop := fnBlocksRow.holds Try.pinned (OpenSpec.ofChange fnBlocksSpec)

/-- ITS FALSE NEIGHBOUR: 'it returns false'. Refute it at one input. -/
def fnBlocksWrong : ChangeSpec := { name := "fnBlocks", fn := fun _ => fun
  | [d] => { results := [.lit (.bool false)], args := [d] }
  | _ => none }
def FnBlocksWrongFalsely : Prop := fnBlocksRow.holds Try.pinned (OpenSpec.ofChange fnBlocksWrong)

/-- 'laws.FnRoom': WHATEVER THE INPUT: true; the input reads as it did. -/
def fnRoomSpec : ChangeSpec := { name := "fnRoom", fn := fun _ => fun
  | [d] => { results := [.lit (.bool true)], args := [d] }
  | _ => none }
def fnRoomRow : OpenClaim := { program := "ythncoohkdmjcaaa", sum := "59d48ab4cc7fde46fcaf9e72a8e0961cd6ea79e5cc4c6787bd40b7d3a8727d90", func := "loop.example/g00979/laws.FnRoom", spec := "fnRoom", apart := false }
def FnRoomSaid : Prop := fnRoomRow.holds Try.pinned (OpenSpec.ofChange fnRoomSpec)

/-- ITS FALSE NEIGHBOUR: 'it returns false'. Refute it at one input. -/
def fnRoomWrong : ChangeSpec := { name := "fnRoom", fn := fun _ => fun
  | [d] => { results := [.lit (.bool false)], args := [d] }
  | _ => none }
def FnRoomWrongFalsely : Prop := fnRoomRow.holds Try.pinned (OpenSpec.ofChange fnRoomWrong)

/-- 'laws.FnExactOramAccess': WHATEVER THE INPUT: true; the input reads as it did. -/
def fnExactOramAccessSpec : ChangeSpec := { name := "fnExactOramAccess", fn := fun _ => fun
  | [d1, d2, d3, d4, d5] => { results := [.lit (.bool true)], args := [d1, d2, d3, d4, d5] }
  | _ => none }
def fnExactOramAccessRow : OpenClaim := { program := "ythncoohkdmjcaaa", sum := "59d48ab4cc7fde46fcaf9e72a8e0961cd6ea79e5cc4c6787bd40b7d3a8727d90", func := "loop.example/g00979/laws.FnExactOramAccess", spec := "fnExactOramAccess", apart := false }
def FnExactOramAccessSaid : Prop := fnExactOramAccessRow.holds Try.pinned (OpenSpec.ofChange fnExactOramAccessSpec)

/-- ITS FALSE NEIGHBOUR: 'it returns false'. Refute it at one input. -/
def fnExactOramAccessWrong : ChangeSpec := { name := "fnExactOramAccess", fn := fun _ => fun
  | [d1, d2, d3, d4, d5] => { results := [.lit (.bool false)], args := [d1, d2, d3, d4, d5] }
  | _ => none }
def FnExactOramAccessWrongFalsely : Prop := fnExactOramAccessRow.holds Try.pinned (OpenSpec.ofChange fnExactOramAccessWrong)

/-- 'laws.FnMemory': WHATEVER THE INPUT: true; the input reads as it did. -/
def fnMemorySpec : ChangeSpec := { name := "fnMemory", fn := fun _ => fun
  | [d] => { results := [.lit (.bool true)], args := [d] }
  | _ => none }
def fnMemoryRow : OpenClaim := { program := "ythncoohkdmjcaaa", sum := "59d48ab4cc7fde46fcaf9e72a8e0961cd6ea79e5cc4c6787bd40b7d3a8727d90", func := "loop.example/g00979/laws.FnMemory", spec := "fnMemory", apart := false }
def FnMemorySaid : Prop := fnMemoryRow.holds Try.pinned (OpenSpec.ofChange fnMemorySpec)

/-- ITS FALSE NEIGHBOUR: 'it returns false'. Refute it at one input. -/
def fnMemoryWrong : ChangeSpec := { name := "fnMemory", fn := fun _ => fun
  | [d] => { results := [.lit (.bool false)], args := [d] }
  | _ => none }
def FnMemoryWrongFalsely : Prop := fnMemoryRow.holds Try.pinned (OpenSpec.ofChange fnMemoryWrong)

/-- 'laws.FnUsedOnce': WHATEVER THE INPUT: true; the input reads as it did. -/
def fnUsedOnceSpec : ChangeSpec := { name := "fnUsedOnce", fn := fun _ => fun
  | [d] => { results := [.lit (.bool true)], args := [d] }
  | _ => none }
def fnUsedOnceRow : OpenClaim := { program := "ythncoohkdmjcaaa", sum := "59d48ab4cc7fde46fcaf9e72a8e0961cd6ea79e5cc4c6787bd40b7d3a8727d90", func := "loop.example/g00979/laws.FnUsedOnce", spec := "fnUsedOnce", apart := false }
def FnUsedOnceSaid : Prop := fnUsedOnceRow.holds Try.pinned (OpenSpec.ofChange fnUsedOnceSpec)

/-- ITS FALSE NEIGHBOUR: 'it returns false'. Refute it at one input. -/
def fnUsedOnceWrong : ChangeSpec := { name := "fnUsedOnce", fn := fun _ => fun
  | [d] => { results := [.lit (.bool false)], args := [d] }
  | _ => none }
def FnUsedOnceWrongFalsely : Prop := fnUsedOnceRow.holds Try.pinned (OpenSpec.ofChange fnUsedOnceWrong)

/-- 'laws.FnMajority': WHATEVER THE INPUT: true; the input reads as it did. -/
def fnMajoritySpec : ChangeSpec := { name := "fnMajority", fn := fun _ => fun
  | [d] => { results := [.lit (.bool true)], args := [d] }
  | _ => none }
def fnMajorityRow : OpenClaim := { program := "ythncoohkdmjcaaa", sum := "59d48ab4cc7fde46fcaf9e72a8e0961cd6ea79e5cc4c6787bd40b7d3a8727d90", func := "loop.example/g00979/laws.FnMajority", spec := "fnMajority", apart := false }
def FnMajoritySaid : Prop := fnMajorityRow.holds Try.pinned (OpenSpec.ofChange fnMajoritySpec)

/-- ITS FALSE NEIGHBOUR: 'it returns false'. Refute it at one input. -/
def fnMajorityWrong : ChangeSpec := { name := "fnMajority", fn := fun _ => fun
  | [d] => { results := [.lit (.bool false)], args := [d] }
  | _ => none }
def FnMajorityWrongFalsely : Prop := fnMajorityRow.holds Try.pinned (OpenSpec.ofChange fnMajorityWrong)

/-- 'laws.FnSharedBits': WHATEVER THE INPUT: true; the input reads as it did. -/
def fnSharedBitsSpec : ChangeSpec := { name := "fnSharedBits", fn := fun _ => fun
  | [d] => { results := [.lit (.bool true)], args := [d] }
  | _ => none }
def fnSharedBitsRow : OpenClaim := { program := "ythncoohkdmjcaaa", sum := "59d48ab4cc7fde46fcaf9e72a8e0961cd6ea79e5cc4c6787bd40b7d3a8727d90", func := "loop.example/g00979/laws.FnSharedBits", spec := "fnSharedBits", apart := false }
def FnSharedBitsSaid : Prop := fnSharedBitsRow.holds Try.pinned (OpenSpec.ofChange fnSharedBitsSpec)

/-- ITS FALSE NEIGHBOUR: 'it returns false'. Refute it at one input. -/
def fnSharedBitsWrong : ChangeSpec := { name := "fnSharedBits", fn := fun _ => fun
  | [d] => { results := [.lit (.bool false)], args := [d] }
  | _ => none }
def FnSharedBitsWrongFalsely : Prop := fnSharedBitsRow.holds Try.pinned (OpenSpec.ofChange fnSharedBitsWrong)

/- THE SECOND FORM. 'bulk': how many values and letters a reading holds, each counted each time it is reached (what is shared counts as often as it is met; a slice's spare places count too). A statement '..UptoSaid' is the law's where the arguments, and the package variables that the reading takes, are together of bulk at most 1048576: NARROWER than '..Said'. Prove '..Said' where nothing that the law and all that it calls make is longer than what came in: it says more and counts as full. Else prove '..UptoSaid'. A law counts once. -/
mutual
def uptoBulk {H : Type} : DataW H → Nat
  | .lit (.string bytes) => bytes.length + 1
  | .lit _ => 1
  | .nil => 1
  | .ptr d => uptoBulk d + 1
  | .slice elems spare => uptoBulkAll elems + uptoBulkAll spare + 1
  | .agg parts => uptoBulkAll parts + 1
  | .iface _ d => uptoBulk d + 1
  | .map entries => uptoBulkEntries entries + 1
  | .held _ => 1
def uptoBulkAll {H : Type} : List (DataW H) → Nat
  | [] => 0
  | d :: r => uptoBulk d + uptoBulkAll r
def uptoBulkEntries {H : Type} : List (Lit × DataW H) → Nat
  | [] => 0
  | x :: r => uptoBulkEntry x + uptoBulkEntries r
def uptoBulkEntry {H : Type} : Lit × DataW H → Nat
  | (.string bytes, d) => bytes.length + uptoBulk d + 1
  | (_, d) => uptoBulk d + 1
 end
def uptoSmall : (H : Type) → List (DataW H) → Bool := fun _ ds => decide (uptoBulkAll ds ≤ 1048576)
def OpenSpec.upto (s : _root_.Go.ChangeSpec) : _root_.Go.OpenSpec := { _root_.Go.OpenSpec.ofChange s with cond := some uptoSmall }

/-- 'laws.FnExactOramPath', WHERE WHAT IT READS IS OF BULK AT MOST 1048576: true; the input reads as it did. -/
def fnExactOramPathUptoRow : OpenClaim := { program := "ythncoohkdmjcaaa", sum := "59d48ab4cc7fde46fcaf9e72a8e0961cd6ea79e5cc4c6787bd40b7d3a8727d90", func := "loop.example/g00979/laws.FnExactOramPath", spec := "fnExactOramPath", apart := false, narrowed := true }
def FnExactOramPathUptoSaid : Prop := fnExactOramPathUptoRow.holds Try.pinned (OpenSpec.upto fnExactOramPathSpec)

/-- 'laws.FnExactOramSizes', WHERE WHAT IT READS IS OF BULK AT MOST 1048576: true; the input reads as it did. -/
def fnExactOramSizesUptoRow : OpenClaim := { program := "ythncoohkdmjcaaa", sum := "59d48ab4cc7fde46fcaf9e72a8e0961cd6ea79e5cc4c6787bd40b7d3a8727d90", func := "loop.example/g00979/laws.FnExactOramSizes", spec := "fnExactOramSizes", apart := false, narrowed := true }
def FnExactOramSizesUptoSaid : Prop := fnExactOramSizesUptoRow.holds Try.pinned (OpenSpec.upto fnExactOramSizesSpec)

/-- 'laws.FnExactOramNew', WHERE WHAT IT READS IS OF BULK AT MOST 1048576: true; the input reads as it did. -/
def fnExactOramNewUptoRow : OpenClaim := { program := "ythncoohkdmjcaaa", sum := "59d48ab4cc7fde46fcaf9e72a8e0961cd6ea79e5cc4c6787bd40b7d3a8727d90", func := "loop.example/g00979/laws.FnExactOramNew", spec := "fnExactOramNew", apart := false, narrowed := true }
def FnExactOramNewUptoSaid : Prop := fnExactOramNewUptoRow.holds Try.pinned (OpenSpec.upto fnExactOramNewSpec)

/-- 'laws.FnExactOramOk', WHERE WHAT IT READS IS OF BULK AT MOST 1048576: true; the input reads as it did. -/
def fnExactOramOkUptoRow : OpenClaim := { program := "ythncoohkdmjcaaa", sum := "59d48ab4cc7fde46fcaf9e72a8e0961cd6ea79e5cc4c6787bd40b7d3a8727d90", func := "loop.example/g00979/laws.FnExactOramOk", spec := "fnExactOramOk", apart := false, narrowed := true }
def FnExactOramOkUptoSaid : Prop := fnExactOramOkUptoRow.holds Try.pinned (OpenSpec.upto fnExactOramOkSpec)

/-- 'laws.FnExactOramValue', WHERE WHAT IT READS IS OF BULK AT MOST 1048576: true; the input reads as it did. -/
def fnExactOramValueUptoRow : OpenClaim := { program := "ythncoohkdmjcaaa", sum := "59d48ab4cc7fde46fcaf9e72a8e0961cd6ea79e5cc4c6787bd40b7d3a8727d90", func := "loop.example/g00979/laws.FnExactOramValue", spec := "fnExactOramValue", apart := false, narrowed := true }
def FnExactOramValueUptoSaid : Prop := fnExactOramValueUptoRow.holds Try.pinned (OpenSpec.upto fnExactOramValueSpec)

/-- 'laws.FnPaths', WHERE WHAT IT READS IS OF BULK AT MOST 1048576: true; the input reads as it did. -/
def fnPathsUptoRow : OpenClaim := { program := "ythncoohkdmjcaaa", sum := "59d48ab4cc7fde46fcaf9e72a8e0961cd6ea79e5cc4c6787bd40b7d3a8727d90", func := "loop.example/g00979/laws.FnPaths", spec := "fnPaths", apart := false, narrowed := true }
def FnPathsUptoSaid : Prop := fnPathsUptoRow.holds Try.pinned (OpenSpec.upto fnPathsSpec)

/-- 'laws.FnBlocks', WHERE WHAT IT READS IS OF BULK AT MOST 1048576: true; the input reads as it did. -/
def fnBlocksUptoRow : OpenClaim := { program := "ythncoohkdmjcaaa", sum := "59d48ab4cc7fde46fcaf9e72a8e0961cd6ea79e5cc4c6787bd40b7d3a8727d90", func := "loop.example/g00979/laws.FnBlocks", spec := "fnBlocks", apart := false, narrowed := true }
def FnBlocksUptoSaid : Prop := fnBlocksUptoRow.holds Try.pinned (OpenSpec.upto fnBlocksSpec)

/-- 'laws.FnRoom', WHERE WHAT IT READS IS OF BULK AT MOST 1048576: true; the input reads as it did. -/
def fnRoomUptoRow : OpenClaim := { program := "ythncoohkdmjcaaa", sum := "59d48ab4cc7fde46fcaf9e72a8e0961cd6ea79e5cc4c6787bd40b7d3a8727d90", func := "loop.example/g00979/laws.FnRoom", spec := "fnRoom", apart := false, narrowed := true }
def FnRoomUptoSaid : Prop := fnRoomUptoRow.holds Try.pinned (OpenSpec.upto fnRoomSpec)

/-- 'laws.FnExactOramAccess', WHERE WHAT IT READS IS OF BULK AT MOST 1048576: true; the input reads as it did. -/
def fnExactOramAccessUptoRow : OpenClaim := { program := "ythncoohkdmjcaaa", sum := "59d48ab4cc7fde46fcaf9e72a8e0961cd6ea79e5cc4c6787bd40b7d3a8727d90", func := "loop.example/g00979/laws.FnExactOramAccess", spec := "fnExactOramAccess", apart := false, narrowed := true }
def FnExactOramAccessUptoSaid : Prop := fnExactOramAccessUptoRow.holds Try.pinned (OpenSpec.upto fnExactOramAccessSpec)

/-- 'laws.FnMemory', WHERE WHAT IT READS IS OF BULK AT MOST 1048576: true; the input reads as it did. -/
def fnMemoryUptoRow : OpenClaim := { program := "ythncoohkdmjcaaa", sum := "59d48ab4cc7fde46fcaf9e72a8e0961cd6ea79e5cc4c6787bd40b7d3a8727d90", func := "loop.example/g00979/laws.FnMemory", spec := "fnMemory", apart := false, narrowed := true }
def FnMemoryUptoSaid : Prop := fnMemoryUptoRow.holds Try.pinned (OpenSpec.upto fnMemorySpec)

/-- 'laws.FnUsedOnce', WHERE WHAT IT READS IS OF BULK AT MOST 1048576: true; the input reads as it did. -/
def fnUsedOnceUptoRow : OpenClaim := { program := "ythncoohkdmjcaaa", sum := "59d48ab4cc7fde46fcaf9e72a8e0961cd6ea79e5cc4c6787bd40b7d3a8727d90", func := "loop.example/g00979/laws.FnUsedOnce", spec := "fnUsedOnce", apart := false, narrowed := true }
def FnUsedOnceUptoSaid : Prop := fnUsedOnceUptoRow.holds Try.pinned (OpenSpec.upto fnUsedOnceSpec)

/-- 'laws.FnMajority', WHERE WHAT IT READS IS OF BULK AT MOST 1048576: true; the input reads as it did. -/
def fnMajorityUptoRow : OpenClaim := { program := "ythncoohkdmjcaaa", sum := "59d48ab4cc7fde46fcaf9e72a8e0961cd6ea79e5cc4c6787bd40b7d3a8727d90", func := "loop.example/g00979/laws.FnMajority", spec := "fnMajority", apart := false, narrowed := true }
def FnMajorityUptoSaid : Prop := fnMajorityUptoRow.holds Try.pinned (OpenSpec.upto fnMajoritySpec)

/-- 'laws.FnSharedBits', WHERE WHAT IT READS IS OF BULK AT MOST 1048576: true; the input reads as it did. -/
def fnSharedBitsUptoRow : OpenClaim := { program := "ythncoohkdmjcaaa", sum := "59d48ab4cc7fde46fcaf9e72a8e0961cd6ea79e5cc4c6787bd40b7d3a8727d90", func := "loop.example/g00979/laws.FnSharedBits", spec := "fnSharedBits", apart := false, narrowed := true }
def FnSharedBitsUptoSaid : Prop := fnSharedBitsUptoRow.holds Try.pinned (OpenSpec.upto fnSharedBitsSpec)

end Rows
end Go.Proofs.Ythncoohkdmjcaaa
