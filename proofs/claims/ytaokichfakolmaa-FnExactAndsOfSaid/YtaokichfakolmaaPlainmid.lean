/-
  The plain form of a statement of one kind.
-/
import Derived.Test.YtaokichfakolmaaAndsS
namespace Go.Proofs.Ytaokichfakolmaa
open Go.RowKit
set_option linter.unusedVariables false
set_option maxRecDepth 100000 in
set_option maxHeartbeats 1000000 in
theorem specl08Plain_mid (o : Int) (d a b c n : Int) (h1 : (o == 1) = false) (h2 : (o == 2) = false) (hm : inB o 3 9 = true) (w : World) :
    Calls Try.prog 100 #[stV o d a b c n] w fun e w' => e = .returned (plainV o d a b c n) ∧ w.grownBy w' none := by
  have HP : Hid (plainV o d a b c n = stV o d a b 0 0) := by unfold Hid plainV; rw [if_neg (by simpa using h1), if_neg (by simpa using h2), if_pos hm]
  have HM := Lib.hid hm
  clear hm
  go_enter Try.func100, Try.ntmps100
  go_wp2_with (go_at_call 77; refine (spec.l01In_q _ _ _ _).mono ?_; rintro e w1 ⟨rfl, rfl⟩; first | rw [show inB 10 3 9 = false by decide] | rw [show inB 11 3 9 = false by decide] | rw [show inB 12 3 9 = false by decide] | rw [HM.out])
  refine ret_c rfl rfl stStmt (show Blk _ (w.heap.size + 1) _ #[.int .i64 o, .int .i64 d, .int .i64 a, .int .i64 b, .int .i64 0, .int .i64 0] from ?_) rfl rfl ⟨?_, ?_⟩
  · exact (Blk.new' _ _ _ _ (by simp)).grow (gbA (gbR _ none) _)
  · first | rfl | (rw [HP.out])
  · repeat (refine gbS ?_ (by simp) _)
    exact gbA (gbA (gbA (gbR _ _) _) _) _
end Go.Proofs.Ytaokichfakolmaa
