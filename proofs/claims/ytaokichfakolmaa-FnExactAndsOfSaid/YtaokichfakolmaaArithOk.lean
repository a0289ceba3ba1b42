/-
  ArithOk: reference and program.
-/
import Derived.Test.YtaokichfakolmaaCountMuls
import Derived.Test.YtaokichfakolmaaElem
namespace Go.Proofs.Ytaokichfakolmaa
open Go.RowKit
set_option linter.unusedVariables false
def inB (x lo hi : Int) : Bool := decide (lo ≤ x) && decide (x ≤ hi)
theorem inB_iff {x lo hi : Int} : inB x lo hi = true ↔ lo ≤ x ∧ x ≤ hi := by simp [inB]
theorem spec.l01In_q (x lo hi : Int) (w : World) :
    Calls Try.prog 77 #[.int .i64 x, .int .i64 lo, .int .i64 hi] w fun e w' => e = .returned (.bool (inB x lo hi)) ∧ w = w' := by
  by_cases h1 : lo ≤ x
  all_goals by_cases h2 : x ≤ hi
  all_goals
    have H1 := Lib.hid h1
    have H2 := Lib.hid h2
    go_enter Try.func77, Try.ntmps77
    go_wp2
    go_ret
    have h1' := H1.out
    have h2' := H2.out
    exact ⟨retB (by simp [inB, h1', h2'] <;> omega), rfl⟩
theorem impl.within_q (x lo hi : Int) (w : World) :
    Calls Try.prog 71 #[.int .i64 x, .int .i64 lo, .int .i64 hi] w fun e w' => e = .returned (.bool (inB x lo hi)) ∧ w = w' := by
  by_cases h1 : lo ≤ x
  all_goals by_cases h2 : x ≤ hi
  all_goals
    have H1 := Lib.hid h1
    have H2 := Lib.hid h2
    go_enter Try.func71, Try.ntmps71
    go_wp2
    go_ret
    have h1' := H1.out
    have h2' := H2.out
    exact ⟨retB (by simp [inB, h1', h2'] <;> omega), rfl⟩
/-- Whether a step may stand at its place. -/
def stepB (p : Int) (k : Int) (s : Stp) : Bool :=
  if s.1 = 1 then inB s.2.1 0 59 && s.2.2 == 0
  else if s.1 = 2 then elemB p s.2.1 && s.2.2 == 0
  else if s.1 = 3 ∨ s.1 = 4 then inB s.2.1 0 (k - 1) && inB s.2.2 0 (k - 1)
  else false
def stAt (m : AM) (j : Nat) : Stp := m.st.getD j (0, 0, 0)
structure AOk (m : AM) : Prop where
  fld : fieldB m.p = true
  few : m.st.length ≤ 60
  steps : ∀ j, j < m.st.length → stepB m.p j (stAt m j) = true
  outs : ∀ z ∈ m.outs, inB z 0 (m.st.length - 1) = true
open Classical in
noncomputable def arithB (m : AM) : Bool := decide (AOk m)
theorem arithB_yes {m : AM} (h : AOk m) : arithB m = true := by simp [arithB, h]
theorem arithB_no {m : AM} (h : ¬ AOk m) : arithB m = false := by simp [arithB, h]
theorem arithB_is {m : AM} (h : arithB m = true) : AOk m := by simpa [arithB] using h
end Go.Proofs.Ytaokichfakolmaa
