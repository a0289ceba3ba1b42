/-
  StmtOk of the program: one kind of statement.
-/
import Derived.Test.YtaokichfakolmaaAnds
namespace Go.Proofs.Ytaokichfakolmaa
open Go.RowKit
set_option linter.unusedVariables false
set_option maxRecDepth 100000 in
set_option maxHeartbeats 2000000 in
theorem implStmtOk_no (o d a b c n : Int) (h1 : (o == 1) = false) (h2 : (o == 2) = false) (hm : inB o 3 9 = false) (h10 : (o == 10) = false) (h11 : (o == 11) = false) (h12 : (o == 12) = false) (w : World) :
    Calls Try.prog 55 #[stV o d a b c n] w fun e w' => e = .returned (.bool (stmtB o d a b c n)) ∧ w.grownBy w' none := by
  have HM := Lib.hid hm
  clear hm
  all_goals
    go_enter Try.func55, Try.ntmps55
    go_wp2_with (first | (go_at_call 71; refine (impl.within_q _ _ _ _).mono ?_; rintro e w1 ⟨rfl, rfl⟩; first | rw [HM.out]) | go_in)
    all_goals
      go_ret
      refine ⟨retB ?_, by first | exact gbA (gbR _ _) _ | exact gbA (gbA (gbR _ _) _) _⟩
      have hm' := HM.out
      simp_all [stmtB]
end Go.Proofs.Ytaokichfakolmaa
