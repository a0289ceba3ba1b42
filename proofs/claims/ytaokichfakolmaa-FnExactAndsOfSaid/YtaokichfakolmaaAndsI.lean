/-
  StmtOk of the program.
-/
import Derived.Test.YtaokichfakolmaaAnds1
import Derived.Test.YtaokichfakolmaaAnds2
import Derived.Test.YtaokichfakolmaaAndsmid
import Derived.Test.YtaokichfakolmaaAnds10
import Derived.Test.YtaokichfakolmaaAnds11
import Derived.Test.YtaokichfakolmaaAnds12
import Derived.Test.YtaokichfakolmaaAndsno
namespace Go.Proofs.Ytaokichfakolmaa
open Go.RowKit
theorem implStmtOk_c (o d a b c n : Int) (w : World) :
    Calls Try.prog 55 #[stV o d a b c n] w fun e w' => e = .returned (.bool (stmtB o d a b c n)) ∧ w.grownBy w' none := by
  by_cases h1 : o = 1
  · subst h1; exact implStmtOk_1 d a b c n w
  by_cases h2 : o = 2
  · subst h2; exact implStmtOk_2 d a b c n w
  cases hm : inB o 3 9 with
  | true => exact implStmtOk_mid o d a b c n (by simpa using h1) (by simpa using h2) hm w
  | false =>
    by_cases h10 : o = 10
    · subst h10; exact implStmtOk_10 d a b c n w
    by_cases h11 : o = 11
    · subst h11; exact implStmtOk_11 d a b c n w
    by_cases h12 : o = 12
    · subst h12; exact implStmtOk_12 d a b c n w
    exact implStmtOk_no o d a b c n (by simpa using h1) (by simpa using h2) hm (by simpa using h10) (by simpa using h11) (by simpa using h12) w
end Go.Proofs.Ytaokichfakolmaa
