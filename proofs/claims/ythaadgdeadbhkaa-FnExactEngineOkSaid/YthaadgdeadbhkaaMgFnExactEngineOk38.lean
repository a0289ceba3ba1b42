/-
  The laws' marks on slices of Auths.
-/
import Derived.Test.YthaadgdeadbhkaaMgFnExactEngineOk37
namespace Go.Proofs.Ythaadgdeadbhkaa
open Go.RowKit
set_option linter.unusedVariables false
set_option linter.unusedSimpArgs false
end Go.Proofs.Ythaadgdeadbhkaa
