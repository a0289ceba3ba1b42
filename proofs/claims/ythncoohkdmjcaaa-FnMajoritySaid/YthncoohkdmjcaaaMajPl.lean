/-
  More than half of the rows are the same: the majority is that row, whatever the rotation.
-/
import Derived.Test.YthncoohkdmjcaaaMajority
namespace Go.Proofs.Ythncoohkdmjcaaa
open Go.RowKit
set_option linter.unusedVariables false
set_option linter.unusedSimpArgs false
theorem cntTo_count (rows : List (List Int)) (r : List Int) : ∀ k, k ≤ rows.length → cntTo rows r k = (rows.take k).count r
  | 0, _ => by simp [cntTo]
  | k + 1, h => by
    have ih := cntTo_count rows r k (by omega)
    have hk : k < rows.length := by omega
    rw [List.take_succ_eq_append_getElem hk, List.count_append, ← ih, show cntTo rows r (k + 1) = cntTo rows r k + if r == rows.getD k [] then 1 else 0 from rfl]
    have e : rows.getD k [] = rows[k] := by rw [List.getD_eq_getElem?_getD, List.getElem?_eq_getElem hk]; rfl
    rw [e, List.count_singleton]
    by_cases he : r = rows[k]
    · subst he; simp
    · simp [he, Ne.symm he]
def majRow (b q : Int) (good : Nat) (i : Nat) : List Int := if i < good then [7, b] else [8, q]
/-- The rows of a draw. -/
def majRows (b : Int) (qs : List Int) (good k : Nat) : List (List Int) := (List.range k).map fun i => if i < good then [7, b] else [8, qs.getD (i % 12) 0 % 2]
theorem majRows_len (b : Int) (qs : List Int) (good k : Nat) : (majRows b qs good k).length = k := by simp [majRows]
theorem majRows_succ (b : Int) (qs : List Int) (good k : Nat) : majRows b qs good (k + 1) = majRows b qs good k ++ [if k < good then [7, b] else [8, qs.getD (k % 12) 0 % 2]] := by
  unfold majRows; rw [List.range_succ, List.map_append]; rfl
theorem majRows_count (b : Int) (qs : List Int) (good : Nat) : ∀ k, (majRows b qs good k).count [7, b] = min k good
  | 0 => by simp [majRows]
  | k + 1 => by
    rw [majRows_succ, List.count_append, majRows_count b qs good k, List.count_singleton]
    by_cases h : k < good
    · simp [h]; omega
    · simp [h]; omega
theorem majRows_other (b : Int) (qs : List Int) (good : Nat) (r : List Int) (hr : r ≠ [7, b]) : ∀ k, (majRows b qs good k).count r ≤ k - good
  | 0 => by simp [majRows]
  | k + 1 => by
    have ih := majRows_other b qs good r hr k
    rw [majRows_succ, List.count_append, List.count_singleton]
    by_cases h : k < good
    · simp [h, Ne.symm hr]; omega
    · simp [h]; split <;> omega
theorem rot_count (rows : List (List Int)) (k : Nat) (r : List Int) : (rows.drop k ++ rows.take k).count r = rows.count r := by
  rw [List.count_append, Nat.add_comm, ← List.count_append, List.take_append_drop]
theorem maj_rot {b : Int} {qs : List Int} {n k : Nat} (h1 : 1 ≤ n) (h8 : n ≤ 8) : maj ((majRows b qs (n / 2 + 1) n).drop k ++ (majRows b qs (n / 2 + 1) n).take k) = (true, [7, b]) := by
  obtain ⟨R, hR⟩ : ∃ R, (majRows b qs (n / 2 + 1) n).drop k ++ (majRows b qs (n / 2 + 1) n).take k = R := ⟨_, rfl⟩
  have hl : R.length = n := by rw [← hR]; have := majRows_len b qs (n / 2 + 1) n; simp; omega
  have hc : ∀ r, cntTo R r n = (majRows b qs (n / 2 + 1) n).count r := fun r => by
    rw [cntTo_count R r n (by omega), List.take_of_length_le (by omega), ← hR, rot_count]
  have hg : (majRows b qs (n / 2 + 1) n).count [7, b] = n / 2 + 1 := by rw [majRows_count]; omega
  have hm : [7, b] ∈ R := by
    rw [← List.count_pos_iff, ← hR, rot_count, hg]; omega
  obtain ⟨j, hj, hjr⟩ := List.mem_iff_getElem.1 hm
  rw [hR]
  have hat : ∀ i, i < n → majAt R n i = true → R.getD i [] = [7, b] := fun i hi hm => by
    apply Classical.byContradiction
    intro hne
    have h2 := majRows_other b qs (n / 2 + 1) _ hne n
    have h3 := hc (R.getD i [])
    unfold majAt at hm
    rw [h3] at hm
    simp only [decide_eq_true_eq] at hm
    omega
  have hjm : majAt R n j = true := by
    have e : R.getD j [] = [7, b] := by rw [List.getD_eq_getElem?_getD, List.getElem?_eq_getElem hj, ← hjr]; rfl
    unfold majAt
    rw [e, hc, hg]
    simp only [decide_eq_true_eq]
    omega
  cases hf : (List.range n).find? (majAt R n) with
  | none =>
    rw [List.find?_range_eq_none] at hf
    have := hf j (by omega)
    rw [hjm] at this
    cases this
  | some i =>
    rw [List.find?_range_eq_some] at hf
    obtain ⟨f1, f2, f3⟩ := hf
    have f2 : i < n := by simpa using f2
    rw [maj_found hl h8 f2 f1 (fun j' hj' => by have := f3 j' hj'; simpa using this), hat i f2 f1]
theorem maj_two : maj [[1], [2]] = (false, []) := by decide
end Go.Proofs.Ythncoohkdmjcaaa
