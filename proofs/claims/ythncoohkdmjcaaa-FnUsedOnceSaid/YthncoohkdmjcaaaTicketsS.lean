/-
  TicketsDisjoint in the reference.
-/
import Derived.Test.YthncoohkdmjcaaaTickets
import Derived.Test.YthncoohkdmjcaaaBools
namespace Go.Proofs.Ythncoohkdmjcaaa
open Go.RowKit
set_option linter.unusedVariables false
theorem tkApart_iff {ts : List Tk} {k : Nat} (hin : ∀ j, j ≤ k → tkIn (ts.getD j (0, 0)) = true) : tkApart ts (k + 1) ↔ tkApart ts k ∧ ∀ l : Nat, (l : Int) < (ts.getD k (0, 0)).2 → ¬ tkCov ts k ((ts.getD k (0, 0)).1 + l) := by
  rw [← tk_free hin]
  exact ⟨fun h => ⟨fun i j hj hi => h i j hj (by omega), fun j hj => h k j hj (by omega)⟩, fun h => tkApart_succ h.1 h.2⟩
theorem tkApart_mono {ts : List Tk} {k n : Nat} (h : ¬ tkApart ts k) (hk : k ≤ n) (hl : ts.length = n) : tkB ts = false := by
  have : ¬ tkApart ts ts.length := fun ha => h fun i j hj hi => ha i j hj (by omega)
  simp [tkB, this]
theorem rep_len {α : Type} (d : α) (n : Nat) : (List.replicate n d).length = n := List.length_replicate
theorem rep_get (n x : Nat) : (List.replicate n false).getD x false = false := by
  rw [List.getD_eq_getElem?_getD, List.getElem?_replicate]; split <;> rfl
theorem rep_own {w : World} {b : Nat} {e : TypeId} {v : Value} {n m : Nat} (h : w.ownsRow b e 1 v m (List.replicate n (.bool false))) : w.ownsRow b e 1 v m ((List.replicate n false).map Value.bool) := by
  rw [List.map_replicate]; exact h
theorem bool_at {us : List Bool} {m i : Nat} (hl : us.length = m) (hi : i < m) : (us.map Value.bool)[i]? = some (.bool (us.getD i false)) := by
  rw [List.getElem?_map, List.getD_eq_getElem?_getD, List.getElem?_eq_getElem (by omega)]; rfl
theorem set_getD {us : List Bool} {i x : Nat} (hi : i < us.length) : (us.set i true).getD x false = true ↔ us.getD x false = true ∨ x = i := by
  rw [List.getD_eq_getElem?_getD, List.getD_eq_getElem?_getD, List.getElem?_set]
  by_cases e : i = x
  · subst e; simp [hi]
  · rw [if_neg e]; simp [Ne.symm e]
theorem ok_step {ts : List Tk} {k X q : Nat} {v u : Bool} (hX : (ts.getD k (0, 0)).1 = X) (hv : v = true ↔ tkApart ts k ∧ ∀ l : Nat, l < q → ¬ tkCov ts k (X + l)) (hu : u = true ↔ tkUsed ts k q ((X + q : Nat) : Int)) :
    (v && !u) = true ↔ tkApart ts k ∧ ∀ l : Nat, l < q + 1 → ¬ tkCov ts k (X + l) := by
  have hu' : u = true ↔ tkCov ts k ((X : Int) + q) := by
    rw [hu]; unfold tkUsed; rw [hX]
    constructor
    · rintro (h | h)
      · rwa [Int.natCast_add] at h
      · omega
    · intro h; left; rwa [Int.natCast_add]
  rw [Bool.and_eq_true, Bool.not_eq_true', ← Bool.not_eq_true, hv, hu']
  constructor
  · rintro ⟨⟨h1, h2⟩, h3⟩
    refine ⟨h1, fun l hl => ?_⟩
    by_cases e : l = q
    · subst e; exact h3
    · exact h2 l (by omega)
  · rintro ⟨h1, h2⟩
    exact ⟨⟨h1, fun l hl => h2 l (by omega)⟩, h2 q (by omega)⟩
end Go.Proofs.Ythncoohkdmjcaaa
