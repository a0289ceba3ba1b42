/-
  FieldOk and FieldBits: reference and program.
-/
import Derived.Test.YtaokichfakolmaaZero
namespace Go.Proofs.Ytaokichfakolmaa
open Go.RowKit
set_option linter.unusedVariables false

def fb (p : Int) : Nat := if p ≤ 2 then 1 else if p ≤ 4 then 2 else if p ≤ 8 then 3 else if p ≤ 16 then 4 else if p ≤ 32 then 5 else if p ≤ 64 then 6 else 7
theorem fb_le (p : Int) : fb p ≤ 7 := by unfold fb; repeat' split
                                         all_goals omega
theorem fb_pow {p : Int} (h2 : 2 ≤ p) (h3 : p ≤ 101) {k : Nat} (hk : k ≤ 7) : ((2 ^ k : Nat) : Int) < p ↔ k < fb p := by
  obtain rfl | rfl | rfl | rfl | rfl | rfl | rfl | rfl : k = 0 ∨ k = 1 ∨ k = 2 ∨ k = 3 ∨ k = 4 ∨ k = 5 ∨ k = 6 ∨ k = 7 := by omega
  all_goals (unfold fb; simp; repeat' split)
  all_goals omega
end Go.Proofs.Ytaokichfakolmaa
