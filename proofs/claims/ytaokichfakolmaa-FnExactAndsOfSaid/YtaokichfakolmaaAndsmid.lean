/-
  StmtOk of the program: one kind of statement.
-/
import Derived.Test.YtaokichfakolmaaAnds
namespace Go.Proofs.Ytaokichfakolmaa
open Go.RowKit
set_option linter.unusedVariables false
set_option maxRecDepth 100000 in
set_option maxHeartbeats 2000000 in
theorem implStmtOk_mid (o d a b c n : Int) (h1 : (o == 1) = false) (h2 : (o == 2) = false) (hm : inB o 3 9 = true) (w : World) :
    Calls Try.prog 55 #[stV o d a b c n] w fun e w' => e = .returned (.bool (stmtB o d a b c n)) ∧ w.grownBy w' none := by
  have HM := Lib.hid hm
  clear hm
  cases hr : [d, a, b].all regB
  all_goals
    have HR := Lib.hid hr
    clear hr
    go_enter Try.func55, Try.ntmps55
    go_wp2_with (first | (go_at_call 102; refine (implisReg_c _ 3 3 [d, a, b] _ (litI3 _ (w.heap.size + 1) (by simp) _ _ _ _) (by omega)).mono ?_; rintro e w1 ⟨rfl, rfl⟩; rw [HR.out]) | (go_at_call 71; refine (impl.within_q _ _ _ _).mono ?_; rintro e w1 ⟨rfl, rfl⟩; first | rw [HM.out]) | go_in)
    all_goals
      go_ret
      have hr' := HR.out
      refine ⟨retB ?_, by first | exact gbA (gbR _ _) _ | exact gbA (gbA (gbR _ _) _) _⟩
      have hm' := HM.out
      simp_all [stmtB]
end Go.Proofs.Ytaokichfakolmaa
