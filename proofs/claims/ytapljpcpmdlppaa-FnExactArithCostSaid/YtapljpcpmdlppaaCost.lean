/-
  Costs: the walks of CostWithin and AddCosts, in the reference and in the program, and of the two laws.
-/
import Derived.Test.YtapljpcpmdlppaaInts
import Derived.Test.YtapljpcpmdlppaaGrow
import Derived.Deep.DeepCutAuto
namespace Go.Proofs.Ytapljpcpmdlppaa
open Go.RowKit
set_option linter.unusedVariables false
abbrev agg4 (a1 a2 a3 a4 : Int) : Value := .agg #[.int .i64 a1, .int .i64 a2, .int .i64 a3, .int .i64 a4]
def costWithin (a1 a2 a3 a4 b1 b2 b3 b4 : Int) : Bool := decide (a1 ≤ b1) && decide (a2 ≤ b2) && decide (a3 ≤ b3) && decide (a4 ≤ b4)
theorem implCostWithin_c (a1 a2 a3 a4 b1 b2 b3 b4 : Int) (w : World) :
    Calls Try.prog 63 #[.agg #[.int .i64 a1, .int .i64 a2, .int .i64 a3, .int .i64 a4], .agg #[.int .i64 b1, .int .i64 b2, .int .i64 b3, .int .i64 b4]] w fun e w' => e = .returned (.bool (costWithin a1 a2 a3 a4 b1 b2 b3 b4)) ∧ w.grownBy w' none := by
  go_enter Try.func63, Try.ntmps63
  go_wp2_with fail
  all_goals
    go_ret
    exact ⟨retB (by simp [costWithin, *] <;> omega), gbA (gbA (gbR _ _) _) _⟩
theorem implAddCosts_c (a1 a2 a3 a4 b1 b2 b3 b4 : Int) (w : World) :
    Calls Try.prog 64 #[.agg #[.int .i64 a1, .int .i64 a2, .int .i64 a3, .int .i64 a4], .agg #[.int .i64 b1, .int .i64 b2, .int .i64 b3, .int .i64 b4]] w fun e w' => e = .returned (.agg #[.int .i64 (wrap64 (a1 + b1)), .int .i64 (wrap64 (a2 + b2)), .int .i64 (wrap64 (a3 + b3)), .int .i64 (wrap64 (a4 + b4))]) ∧ w.grownBy w' none := by
  go_enter Try.func64, Try.ntmps64
  go_wp2_with fail
  exact bodyPost_ret (by simp [results, Try.results64, go_sem]) rfl ⟨rfl, by repeat (first | exact gbR _ _ | refine gbA ?_ _)⟩
theorem eqCost_c (a1 a2 a3 a4 : Int) (w : World) :
    Calls Try.prog 47 #[.agg #[.int .i64 a1, .int .i64 a2, .int .i64 a3, .int .i64 a4], .agg #[.int .i64 a1, .int .i64 a2, .int .i64 a3, .int .i64 a4]] w fun e w' => e = .returned (.bool true) ∧ w.grownBy w' none := by
  go_enter Try.func47, Try.ntmps47
  go_wp2_with fail
  all_goals
    go_ret
    exact ⟨rfl, by repeat (first | exact gbR _ _ | refine gbA ?_ _)⟩

end Go.Proofs.Ytapljpcpmdlppaa
