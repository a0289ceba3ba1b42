/-
  CountMuls: reference and program; its exact law.
-/
import Derived.Test.YtaokichfakolmaaArithK
namespace Go.Proofs.Ytaokichfakolmaa
open Go.RowKit
set_option linter.unusedVariables false
abbrev Stp := Int × Int × Int
/-- How many of the first k steps multiply. -/
def muls (st : List Stp) (k : Nat) : Nat := (st.take k).countP (·.1 == 4)
theorem muls_zero (st : List Stp) : muls st 0 = 0 := by simp [muls]
theorem muls_succ (st : List Stp) (k : Nat) (x : Stp) (h : st[k]? = some x) : muls st (k + 1) = muls st k + if x.1 == 4 then 1 else 0 := by
  unfold muls
  obtain ⟨hk, rfl⟩ := List.getElem?_eq_some_iff.1 h
  rw [List.take_succ_eq_append_getElem hk, List.countP_append, List.countP_singleton]
theorem muls_le (st : List Stp) (k : Nat) : muls st k ≤ k := Nat.le_trans List.countP_le_length (by rw [List.length_take]; omega)
theorem steps_at {w : World} {A : Option Addr} {n : Nat} {st : List Stp} (h : FL c3 3 w A n st) {k : Nat} (hk : k < n) :
    ∃ (b o : Nat) (x y z : Int), A = some ⟨b, o, none⟩ ∧ b < w.heap.size ∧ st[k]? = some (x, y, z) ∧ w.cell? ⟨b, o + k * 3, none⟩ = some (.int .i64 x) ∧ w.cell? ⟨b, o + k * 3 + 1, none⟩ = some (.int .i64 y) ∧ w.cell? ⟨b, o + k * 3 + 2, none⟩ = some (.int .i64 z) := by
  obtain ⟨b, o, t, rfl, hb, hx, hc⟩ := h.cell c3_len hk (by omega)
  obtain ⟨x, y, z⟩ := t
  have c0 := hc 0 (by omega)
  have c1 := hc 1 (by omega)
  have c2 := hc 2 (by omega)
  simp only [c3, Nat.add_zero, ← Nat.add_assoc, List.getElem?_cons_zero, List.getElem?_cons_succ] at c0 c1 c2
  exact ⟨b, o, x, y, z, rfl, hb, hx, c0, c1, c2⟩
end Go.Proofs.Ytaokichfakolmaa
