/-
  CountCaught: the reference counts, the program subtracts: the same number. FnExactCountCaught and FnSubsets' callee.
-/
import Derived.Test.YtapljpcpmdlppaaInts
import Derived.Test.YtapljpcpmdlppaaPure
namespace Go.Proofs.Ytapljpcpmdlppaa
open Go.RowKit
set_option linter.unusedVariables false
theorem wrap_small {x : Int} (h0 : -1099511627776 ≤ x) (h1 : x ≤ 1099511627776) : wrap64 x = x := IntWalk.wrap64_in x ⟨by omega, by omega⟩

end Go.Proofs.Ytapljpcpmdlppaa
