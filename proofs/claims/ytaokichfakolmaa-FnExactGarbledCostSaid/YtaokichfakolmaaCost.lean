/-
  Costs: the walks of CostWithin and AddCosts, in the reference and in the program, and of the two laws.
-/
import Derived.Test.YtaokichfakolmaaInts
import Derived.Test.YtaokichfakolmaaGrow
import Derived.Deep.DeepCutAuto
namespace Go.Proofs.Ytaokichfakolmaa
open Go.RowKit
set_option linter.unusedVariables false
abbrev agg4 (a1 a2 a3 a4 : Int) : Value := .agg #[.int .i64 a1, .int .i64 a2, .int .i64 a3, .int .i64 a4]
def costWithin (a1 a2 a3 a4 b1 b2 b3 b4 : Int) : Bool := decide (a1 ≤ b1) && decide (a2 ≤ b2) && decide (a3 ≤ b3) && decide (a4 ≤ b4)
theorem eqCost_c (a1 a2 a3 a4 : Int) (w : World) :
    Calls Try.prog 18 #[.agg #[.int .i64 a1, .int .i64 a2, .int .i64 a3, .int .i64 a4], .agg #[.int .i64 a1, .int .i64 a2, .int .i64 a3, .int .i64 a4]] w fun e w' => e = .returned (.bool true) ∧ w.grownBy w' none := by
  go_enter Try.func18, Try.ntmps18
  go_wp2_with fail
  all_goals
    go_ret
    exact ⟨rfl, by repeat (first | exact gbR _ _ | refine gbA ?_ _)⟩

end Go.Proofs.Ytaokichfakolmaa
