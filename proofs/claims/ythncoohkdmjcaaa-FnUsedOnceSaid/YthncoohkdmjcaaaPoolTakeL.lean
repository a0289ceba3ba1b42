/-
  FnExactPoolTake's walk.
-/
import Derived.Test.YthncoohkdmjcaaaPoolTake
namespace Go.Proofs.Ythncoohkdmjcaaa
open Go.RowKit
set_option linter.unusedVariables false
end Go.Proofs.Ythncoohkdmjcaaa
