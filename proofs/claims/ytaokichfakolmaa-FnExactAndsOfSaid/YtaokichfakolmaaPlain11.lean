/-
  The plain form of a statement of one kind.
-/
import Derived.Test.YtaokichfakolmaaAndsS
namespace Go.Proofs.Ytaokichfakolmaa
open Go.RowKit
set_option linter.unusedVariables false
set_option maxRecDepth 100000 in
set_option maxHeartbeats 1000000 in
theorem specl08Plain_11 (d a b c n : Int) (w : World) :
    Calls Try.prog 100 #[stV 11 d a b c n] w fun e w' => e = .returned (plainV 11 d a b c n) ∧ w.grownBy w' none := by
  
  go_enter Try.func100, Try.ntmps100
  go_wp2_with (go_at_call 77; refine (spec.l01In_q _ _ _ _).mono ?_; rintro e w1 ⟨rfl, rfl⟩; first | rw [show inB 10 3 9 = false by decide] | rw [show inB 11 3 9 = false by decide] | rw [show inB 12 3 9 = false by decide] | rw [HM.out])
  refine ret_c rfl rfl stStmt (show Blk _ (w.heap.size + 1) _ #[.int .i64 11, .int .i64 0, .int .i64 a, .int .i64 0, .int .i64 0, .int .i64 0] from ?_) rfl rfl ⟨?_, ?_⟩
  · exact (Blk.new' _ _ _ _ (by simp)).grow (gbA (gbR _ none) _)
  · first | rfl | (rw [HP.out])
  · repeat (refine gbS ?_ (by simp) _)
    exact gbA (gbA (gbA (gbR _ _) _) _) _
end Go.Proofs.Ytaokichfakolmaa
