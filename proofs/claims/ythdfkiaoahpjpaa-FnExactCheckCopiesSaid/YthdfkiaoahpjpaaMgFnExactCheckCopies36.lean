/-
  The laws' marks on slices of Publics (printed by wip/gen_pubsm.py).
-/
import Derived.Test.YthdfkiaoahpjpaaMgFnExactCheckCopies35
namespace Go.Proofs.Ythdfkiaoahpjpaa
open Go.RowKit
set_option linter.unusedVariables false
set_option linter.unusedSimpArgs false
end Go.Proofs.Ythdfkiaoahpjpaa
