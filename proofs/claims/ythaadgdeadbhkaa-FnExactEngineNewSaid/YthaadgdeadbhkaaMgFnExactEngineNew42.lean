/-
  AuthOk of the reference, of a value of form.
-/
import Derived.Test.YthaadgdeadbhkaaMgFnExactEngineNew23
import Derived.Test.YthaadgdeadbhkaaMgFnExactEngineNew29
namespace Go.Proofs.Ythaadgdeadbhkaa
open Go.RowKit
set_option linter.unusedVariables false
set_option linter.unusedSimpArgs false
end Go.Proofs.Ythaadgdeadbhkaa
/-
  EngineOk of the program.
-/
namespace Go.Proofs.Ythaadgdeadbhkaa
open Go.RowKit
set_option linter.unusedVariables false
set_option linter.unusedSimpArgs false
theorem okV_zero {k : KM} {x : AuM} (h : zeroA x = true) : okV k x = true := by unfold okV; rw [h]; rfl
end Go.Proofs.Ythaadgdeadbhkaa
