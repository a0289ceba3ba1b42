/-
  PoolNew, PoolCrash; FnReserved's walk.
-/
import Derived.Test.YthncoohkdmjcaaaPoolTakeL
import Derived.Test.YthncoohkdmjcaaaSubsets
import Derived.Test.YthncoohkdmjcaaaReg
import Derived.Test.YthncoohkdmjcaaaXor
import Derived.Deep.DeepCutAuto
namespace Go.Proofs.Ythncoohkdmjcaaa
open Go.RowKit
set_option linter.unusedVariables false
theorem implPoolCrash_yes (s x b : Int) (w : World) (h : poolOk s x b = true) :
    Calls Try.prog 42 #[.agg #[.int .i64 s, .int .i64 x, .int .i64 b]] w fun e w' => e = .returned (.agg #[.int .i64 s, .int .i64 b, .int .i64 b]) ∧ w.grownBy w' none := by
  have HP := Lib.hid h
  clear h
  go_enter Try.func42, Try.ntmps42
  go_wp2_with fail
  refine (implPoolOk_c s x b _).mono ?_
  rintro e w1 ⟨rfl, hw⟩
  rw [HP.out]
  have B0 : Blk w1 w.heap.size 55 #[.int .i64 s, .int .i64 x, .int .i64 b] := Blk.grow ((Blk.new w _ _).grow (gbA (gbR _ _) _)) hw
  have c0 := B0.cell 0
  have c1 := B0.cell 1
  have c2 := B0.cell 2
  have f0 := B0.frozen 0
  have f1 := B0.frozen 1
  simp at c0 c1 c2
  have B1 : Blk w1 (w.heap.size + 1) 55 #[.int .i64 0, .int .i64 0, .int .i64 0] := Blk.grow (Blk.new' (w.alloc _) _ _ _ (by simp)) hw
  have c3 := B1.cell 0
  have c4 := B1.cell 1
  have c5 := B1.cell 2
  have f3 := B1.frozen 0
  have f4 := B1.frozen 1
  have f5 := B1.frozen 2
  simp at c3 c4 c5
  have E1 := Lib.hid ((((B1.far (p := ⟨w.heap.size, 1, none⟩) (by simp) (.int .i64 b)).set_ 0 (.int .i64 s)).set_ 1 (.int .i64 b)).set_ 2 (.int .i64 b))
  clear B0 B1
  go_wp2
  refine ret_c Try.results42 (by rfl) st_pool (cs := #[.int .i64 s, .int .i64 b, .int .i64 b]) ?B (by rfl) (by rfl) ⟨rfl, ?_⟩
  case B => exact E1.out
  exact gbS (gbS (gbS (gbS (gbT (gbA (gbA (gbR _ _) _) _) hw) (by simp) _) (by simp) _) (by simp) _) (by simp) _
end Go.Proofs.Ythncoohkdmjcaaa
