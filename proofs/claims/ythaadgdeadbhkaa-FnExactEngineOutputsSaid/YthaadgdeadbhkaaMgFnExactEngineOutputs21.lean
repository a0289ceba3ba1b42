/-
  CountMuls: reference and program; its exact law.
-/
import Derived.Test.YthaadgdeadbhkaaMgFnExactEngineOutputs20
namespace Go.Proofs.Ythaadgdeadbhkaa
open Go.RowKit
set_option linter.unusedVariables false
set_option linter.unusedSimpArgs false
abbrev Stp := Int × Int × Int
theorem steps_at {w : World} {A : Option Addr} {n : Nat} {st : List Stp} (h : FL c3 3 w A n st) {k : Nat} (hk : k < n) :
    ∃ (b o : Nat) (x y z : Int), A = some ⟨b, o, none⟩ ∧ b < w.heap.size ∧ st[k]? = some (x, y, z) ∧ w.cell? ⟨b, o + k * 3, none⟩ = some (.int .i64 x) ∧ w.cell? ⟨b, o + k * 3 + 1, none⟩ = some (.int .i64 y) ∧ w.cell? ⟨b, o + k * 3 + 2, none⟩ = some (.int .i64 z) := by
  obtain ⟨b, o, t, rfl, hb, hx, hc⟩ := h.cell c3_len hk (by omega)
  obtain ⟨x, y, z⟩ := t
  have c0 := hc 0 (by omega)
  have c1 := hc 1 (by omega)
  have c2 := hc 2 (by omega)
  simp only [c3, Nat.add_zero, ← Nat.add_assoc, List.getElem?_cons_zero, List.getElem?_cons_succ] at c0 c1 c2
  exact ⟨b, o, x, y, z, rfl, hb, hx, c0, c1, c2⟩
end Go.Proofs.Ythaadgdeadbhkaa
