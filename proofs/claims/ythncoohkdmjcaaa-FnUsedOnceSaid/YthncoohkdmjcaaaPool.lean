/-
  Pools: PoolOk, PoolReserve, PoolTake in the reference and the program; their exact laws.
-/
import Derived.Test.YthncoohkdmjcaaaZero
namespace Go.Proofs.Ythncoohkdmjcaaa
open Go.RowKit
set_option linter.unusedVariables false

/-- A pool of size s, next x, burned b. -/
def poolOk (s x b : Int) : Bool := decide (1 ≤ s) && decide (s ≤ 1000) && decide (0 ≤ x) && decide (x ≤ b) && decide (b ≤ s)
theorem poolOk_is {s x b : Int} (h : poolOk s x b = true) : 1 ≤ s ∧ s ≤ 1000 ∧ 0 ≤ x ∧ x ≤ b ∧ b ≤ s := by
  simp [poolOk] at h; omega
theorem implPoolOk_c (s x b : Int) (w : World) :
    Calls Try.prog 44 #[.agg #[.int .i64 s, .int .i64 x, .int .i64 b]] w fun e w' => e = .returned (.bool (poolOk s x b)) ∧ w.grownBy w' none := by
  by_cases h1 : 1 ≤ s
  all_goals by_cases h2 : s ≤ 1000
  all_goals by_cases h3 : 0 ≤ x
  all_goals by_cases h4 : x ≤ b
  all_goals by_cases h5 : b ≤ s
  all_goals by_cases h6 : 0 ≤ b
  all_goals (try (exfalso; omega))
  all_goals
    have e : poolOk s x b = (decide (1 ≤ s) && decide (s ≤ 1000) && decide (0 ≤ x) && decide (x ≤ b) && decide (b ≤ s)) := rfl
    have E := Lib.hid e
    have H1 := Lib.hid h1; have H2 := Lib.hid h2; have H3 := Lib.hid h3; have H4 := Lib.hid h4; have H5 := Lib.hid h5
    clear e
    have d1 : decide (1 ≤ s) = decide (1 ≤ s) := rfl
    clear d1
    go_enter Try.func44, Try.ntmps44
    go_wp2
    all_goals
      go_ret
      exact ⟨retB (by rw [E.out]; simp <;> omega), gbA (gbR _ _) _⟩
end Go.Proofs.Ythncoohkdmjcaaa
