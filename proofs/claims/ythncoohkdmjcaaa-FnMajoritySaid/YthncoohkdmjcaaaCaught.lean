/-
  CountCaught: the reference counts, the program subtracts: the same number. FnExactCountCaught and FnSubsets' callee.
-/
import Derived.Test.YthncoohkdmjcaaaInts
import Derived.Test.YthncoohkdmjcaaaPure
namespace Go.Proofs.Ythncoohkdmjcaaa
open Go.RowKit
set_option linter.unusedVariables false
set_option linter.unusedSimpArgs false
theorem wrap_small {x : Int} (h0 : -1099511627776 ≤ x) (h1 : x ≤ 1099511627776) : wrap64 x = x := IntWalk.wrap64_in x ⟨by omega, by omega⟩

end Go.Proofs.Ythncoohkdmjcaaa
