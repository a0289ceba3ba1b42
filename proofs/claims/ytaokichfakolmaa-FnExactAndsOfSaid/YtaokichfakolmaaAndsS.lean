/-
  The plain form of a statement, in the reference.
-/
import Derived.Test.YtaokichfakolmaaAndsI
namespace Go.Proofs.Ytaokichfakolmaa
open Go.RowKit
set_option linter.unusedVariables false
theorem stStmt : St Try.prog 25 6 := ⟨⟨_, Try.underlying25, rfl⟩, by kernel_rfl⟩
theorem arr6 (x0 x1 x2 x3 x4 x5 a b c d e f : Value) : (((((#[x0, x1, x2, x3, x4, x5].setIfInBounds 0 a).setIfInBounds 1 b).setIfInBounds 2 c).setIfInBounds 3 d).setIfInBounds 4 e).setIfInBounds 5 f = #[a, b, c, d, e, f] := by simp
theorem six {cs : Array Value} (hn : cs.size = 6) : ∃ x0 x1 x2 x3 x4 x5, cs = #[x0, x1, x2, x3, x4, x5] := by
  obtain ⟨l⟩ := cs
  match l, hn with
  | [x0, x1, x2, x3, x4, x5], _ => exact ⟨x0, x1, x2, x3, x4, x5, rfl⟩
theorem fill6 {w : World} {g : Nat} {t : TypeId} {cs : Array Value} (hB : Blk w g t cs) (hn : cs.size = 6) (a b c d e f : Value) :
    Blk ((((((w.setCell ⟨g, 0, none⟩ a).setCell ⟨g, 1, none⟩ b).setCell ⟨g, 2, none⟩ c).setCell ⟨g, 3, none⟩ d).setCell ⟨g, 4, none⟩ e).setCell ⟨g, 5, none⟩ f) g t #[a, b, c, d, e, f] := by
  have h := (((((hB.set_ 0 a).set_ 1 b).set_ 2 c).set_ 3 d).set_ 4 e).set_ 5 f
  obtain ⟨x0, x1, x2, x3, x4, x5, rfl⟩ := six hn
  rw [arr6] at h
  exact h
def plainV (o d a b c n : Int) : Value :=
  if o = 1 then stV 1 d 0 0 0 n else if o = 2 then stV 2 d a 0 0 n else if inB o 3 9 = true then stV o d a b 0 0 else if o = 10 then stV 10 d a b c 0 else if o = 11 then stV 11 0 a 0 0 0 else if o = 12 then stV 12 0 0 0 0 n else stV o 0 0 0 0 0
end Go.Proofs.Ytaokichfakolmaa
