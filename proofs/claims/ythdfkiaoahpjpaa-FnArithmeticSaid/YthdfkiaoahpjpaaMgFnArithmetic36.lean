/-
  RoundsOf, MulsAt, ArithCost, UsedErrors: reference and program.
-/
import Derived.Test.YthdfkiaoahpjpaaMgFnArithmetic21
import Derived.Test.YthdfkiaoahpjpaaMgFnArithmetic27
namespace Go.Proofs.Ythdfkiaoahpjpaa
open Go.RowKit
set_option linter.unusedVariables false
set_option linter.unusedSimpArgs false
end Go.Proofs.Ythdfkiaoahpjpaa
/-
  ArithCost, UsedErrors: reference and program.
-/
namespace Go.Proofs.Ythdfkiaoahpjpaa
open Go.RowKit
set_option linter.unusedVariables false
set_option linter.unusedSimpArgs false
theorem Ints.take {w : World} {A : Option Addr} {n : Nat} {zs : List Int} (h : Ints w A n zs) {k : Nat} (hk : k ≤ n) : Ints w A k (zs.take k) := by
  have hl := h.len
  refine ⟨by simp; omega, fun hp => ?_⟩
  obtain ⟨b, o, e, hb, hc⟩ := h.at_ (by omega)
  refine ⟨b, o, e, hb, fun j hj => ?_⟩
  rw [hc j (by omega), List.getElem?_map, List.getElem?_take, if_pos (by omega), List.getElem?_eq_getElem (by omega), getI _ _ (by omega)]
  rfl
end Go.Proofs.Ythdfkiaoahpjpaa
