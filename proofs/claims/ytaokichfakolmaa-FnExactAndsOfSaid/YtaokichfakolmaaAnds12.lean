/-
  StmtOk of the program: one kind of statement.
-/
import Derived.Test.YtaokichfakolmaaAnds
namespace Go.Proofs.Ytaokichfakolmaa
open Go.RowKit
set_option linter.unusedVariables false
set_option maxRecDepth 100000 in
set_option maxHeartbeats 2000000 in
theorem implStmtOk_12 (d a b c n : Int) (w : World) :
    Calls Try.prog 55 #[stV 12 d a b c n] w fun e w' => e = .returned (.bool (stmtB 12 d a b c n)) ∧ w.grownBy w' none := by
  cases hn : inB n 1 8
  all_goals
    have HN := Lib.hid hn
    clear hn
    go_enter Try.func55, Try.ntmps55
    go_wp2_with (first | (go_at_call 71; refine (impl.within_q _ _ _ _).mono ?_; rintro e w1 ⟨rfl, rfl⟩; first | rw [show inB 12 3 9 = false by decide] | rw [HN.out]) | go_in)
    all_goals
      go_ret
      have hn' := HN.out
      refine ⟨retB ?_, by first | exact gbA (gbR _ _) _ | exact gbA (gbA (gbR _ _) _) _⟩
      have hd' : inB 12 3 9 = false := by decide
      simp_all [stmtB]
end Go.Proofs.Ytaokichfakolmaa
