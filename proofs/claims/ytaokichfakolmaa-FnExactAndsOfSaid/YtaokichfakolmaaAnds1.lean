/-
  StmtOk of the program: one kind of statement.
-/
import Derived.Test.YtaokichfakolmaaAnds
namespace Go.Proofs.Ytaokichfakolmaa
open Go.RowKit
set_option linter.unusedVariables false
set_option maxRecDepth 100000 in
set_option maxHeartbeats 2000000 in
theorem implStmtOk_1 (d a b c n : Int) (w : World) :
    Calls Try.prog 55 #[stV 1 d a b c n] w fun e w' => e = .returned (.bool (stmtB 1 d a b c n)) ∧ w.grownBy w' none := by
  cases hr : [d].all regB
  all_goals cases hn : inB n 0 15
  all_goals
    have HR := Lib.hid hr
    have HN := Lib.hid hn
    clear hr hn
    go_enter Try.func55, Try.ntmps55
    go_wp2_with (first | (go_at_call 102; refine (implisReg_c _ 1 1 [d] _ (litI1 _ (w.heap.size + 1) (by simp) _ _) (by omega)).mono ?_; rintro e w1 ⟨rfl, rfl⟩; rw [HR.out]) | (go_at_call 71; refine (impl.within_q _ _ _ _).mono ?_; rintro e w1 ⟨rfl, rfl⟩; first | rw [HN.out]) | go_in)
    all_goals
      go_ret
      have hr' := HR.out
      have hn' := HN.out
      refine ⟨retB ?_, by first | exact gbA (gbR _ _) _ | exact gbA (gbA (gbR _ _) _) _⟩
      simp_all [stmtB]
end Go.Proofs.Ytaokichfakolmaa
