/-
  Elements of a field: IsElement, l03Both, areElements, l03All, FAdd, FSub.
-/
import Derived.Test.YtaokichfakolmaaField
namespace Go.Proofs.Ytaokichfakolmaa
open Go.RowKit
set_option linter.unusedVariables false
def elemB (p a : Int) : Bool := fieldB p && decide (0 ≤ a) && decide (a ≤ p - 1)
theorem elemB_is {p a : Int} (h : elemB p a = true) : fieldB p = true ∧ 2 ≤ p ∧ p ≤ 101 ∧ 0 ≤ a ∧ a < p := by
  simp [elemB] at h
  have := field_range h.1.1
  exact ⟨h.1.1, this.1, this.2, h.1.2, by omega⟩
theorem elemB_mk {p a : Int} (h : fieldB p = true) (h0 : 0 ≤ a) (h1 : a < p) : elemB p a = true := by
  simp [elemB, h]; omega
/-- All of the list are numbers from 0 to p - 1, and p is a prime. -/
def elemsB (p : Int) (zs : List Int) : Bool := fieldB p && zs.all fun a => decide (0 ≤ a) && decide (a ≤ p - 1)
theorem elemsB_is {p : Int} {zs : List Int} (h : elemsB p zs = true) : fieldB p = true ∧ 2 ≤ p ∧ p ≤ 101 ∧ ∀ a ∈ zs, 0 ≤ a ∧ a < p := by
  simp only [elemsB, Bool.and_eq_true, List.all_eq_true, decide_eq_true_eq] at h
  have := field_range h.1
  exact ⟨h.1, this.1, this.2, fun a ha => by have := h.2 a ha; omega⟩
theorem elemsB_mk {p : Int} {zs : List Int} (h : fieldB p = true) (h1 : ∀ a ∈ zs, 0 ≤ a ∧ a < p) : elemsB p zs = true := by
  simp only [elemsB, Bool.and_eq_true, List.all_eq_true, decide_eq_true_eq]
  exact ⟨h, fun a ha => by have := h1 a ha; omega⟩
theorem elemsB_two (p a b : Int) : elemsB p [a, b] = (elemB p a && elemB p b) := by
  cases hf : fieldB p <;> simp [elemsB, elemB, hf, Bool.and_assoc]
theorem elemsB_out {p : Int} {zs : List Int} {k : Nat} (hk : k < zs.length) (h : ¬ (0 ≤ zs.getD k 0 ∧ zs.getD k 0 ≤ p - 1)) : elemsB p zs = false := by
  cases hb : elemsB p zs with
  | false => rfl
  | true =>
    have := (elemsB_is hb).2.2.2 zs[k] (List.getElem_mem hk)
    rw [getI zs k hk] at h
    omega
theorem elemsB_all {p : Int} {zs : List Int} {n : Nat} (hf : fieldB p = true) (hl : zs.length = n) (h : ∀ j, j < n → 0 ≤ zs.getD j 0 ∧ zs.getD j 0 ≤ p - 1) : elemsB p zs = true := by
  refine elemsB_mk hf fun a ha => ?_
  obtain ⟨j, hj, rfl⟩ := List.getElem_of_mem ha
  have := h j (by omega)
  rw [getI zs j hj] at this
  omega
theorem ints2 (w : World) (t : TypeId) (a b : Int) : Ints (w.alloc (.cells #[.int .i64 a, .int .i64 b] t)) (some ⟨w.heap.size, 0, none⟩) 2 [a, b] := by
  refine ⟨by simp, fun _ => ⟨w.heap.size, 0, rfl, by simp, fun j hj => ?_⟩⟩
  rw [cell_of_row _ _ _ _ t (0, 0) (heap_alloc_new w _)]
  rcases (show j = 0 ∨ j = 1 by omega) with rfl | rfl <;> rfl
end Go.Proofs.Ytaokichfakolmaa
