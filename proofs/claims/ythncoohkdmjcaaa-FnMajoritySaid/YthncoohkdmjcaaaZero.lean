/-
  AllZero, and the laws FnExactCountCaught and FnExactAllZero.
-/
import Derived.Test.YthncoohkdmjcaaaCaught
namespace Go.Proofs.Ythncoohkdmjcaaa
open Go.RowKit
set_option linter.unusedVariables false
set_option linter.unusedSimpArgs false

/-- The number k places in. -/
theorem Ints.cell {w : World} {A : Option Addr} {n : Nat} {zs : List Int} (h : Ints w A n zs) {k : Nat} (hk : k < n) :
    ∃ b o, A = some ⟨b, o, none⟩ ∧ b < w.heap.size ∧ w.cell? ⟨b, o + k, none⟩ = some (.int .i64 (zs.getD k 0)) := by
  obtain ⟨b, o, e, hb, hc⟩ := h.at_ (by omega)
  exact ⟨b, o, e, hb, hc k hk⟩
def allZ (zs : List Int) (k : Nat) : Prop := ∀ j, j < k → zs.getD j 0 = 0
theorem allZ_all {zs : List Int} {n : Nat} (hl : zs.length = n) (h : allZ zs n) : zs.all (· == 0) = true := by
  rw [List.all_eq_true]
  intro x hx
  obtain ⟨j, hj, rfl⟩ := List.getElem_of_mem hx
  have := h j (by omega)
  rw [getI zs j hj] at this
  simp [this]
theorem allZ_not {zs : List Int} {k : Nat} (hk : k < zs.length) (h : ¬ zs.getD k 0 = 0) : zs.all (· == 0) = false := by
  rw [List.all_eq_false]
  refine ⟨zs[k], List.getElem_mem hk, ?_⟩
  rw [getI zs k hk] at h
  simp [h]
theorem allZ_succ {zs : List Int} {k : Nat} (h : allZ zs k) (h0 : zs.getD k 0 = 0) : allZ zs (k + 1) := fun j hj => by
  by_cases e : j = k
  · rw [e]; exact h0
  · exact h j (by omega)
end Go.Proofs.Ythncoohkdmjcaaa
