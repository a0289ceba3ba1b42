/-
  DotBits and NumberOf: reference and program, and their exact laws.
-/
import Derived.Test.YtapljpcpmdlppaaXorAll
namespace Go.Proofs.Ytapljpcpmdlppaa
open Go.RowKit
set_option linter.unusedVariables false
/-- The sum so far and the next power. -/
def dotTo (p : Int) (zs : List Int) : Nat → Int × Int
  | 0 => (0, 1)
  | k + 1 => (((dotTo p zs k).1 + zs.getD k 0 * (dotTo p zs k).2) % p, 2 * (dotTo p zs k).2 % p)
theorem dotTo_rng (p : Int) (zs : List Int) (hp : 2 ≤ p) : ∀ k, (0 ≤ (dotTo p zs k).1 ∧ (dotTo p zs k).1 < p) ∧ (0 ≤ (dotTo p zs k).2 ∧ (dotTo p zs k).2 < p)
  | 0 => by simp [dotTo]; omega
  | k + 1 => ⟨⟨Int.emod_nonneg _ (by omega), Int.emod_lt_of_pos _ (by omega)⟩, ⟨Int.emod_nonneg _ (by omega), Int.emod_lt_of_pos _ (by omega)⟩⟩
def dotB (p : Int) (zs : List Int) : Bool := elemsB p zs && decide (zs.length ≤ 32)
theorem elemB_rng {p : Int} {zs : List Int} (h : elemsB p zs = true) {k : Nat} (hk : k < zs.length) : 0 ≤ zs.getD k 0 ∧ zs.getD k 0 < p := by
  have h1 := elemsB_is h
  rw [getI zs k hk]
  exact h1.2.2.2 zs[k] (List.getElem_mem hk)
def numTo (zs : List Int) : Nat → Int
  | 0 => 0
  | k + 1 => numTo zs k + zs.getD k 0 * 2 ^ k
def bitsB (zs : List Int) : Bool := zs.all fun b => decide (0 ≤ b) && decide (b ≤ 1)
theorem bitsB_at {zs : List Int} (h : bitsB zs = true) (j : Nat) : 0 ≤ zs.getD j 0 ∧ zs.getD j 0 ≤ 1 := by
  by_cases hj : j < zs.length
  · rw [getI zs j hj]
    simp only [bitsB, List.all_eq_true, Bool.and_eq_true, decide_eq_true_eq] at h
    exact h _ (List.getElem_mem hj)
  · simp [List.getD_eq_getElem?_getD, List.getElem?_eq_none (show zs.length ≤ j by omega)]
theorem bitsB_out {zs : List Int} {k : Nat} (hk : k < zs.length) (h : ¬ (0 ≤ zs.getD k 0 ∧ zs.getD k 0 ≤ 1)) : bitsB zs = false := by
  cases hb : bitsB zs with
  | false => rfl
  | true => exact absurd (bitsB_at hb k) h
theorem bitsB_all {zs : List Int} {n : Nat} (hl : zs.length = n) (h : ∀ j, j < n → 0 ≤ zs.getD j 0 ∧ zs.getD j 0 ≤ 1) : bitsB zs = true := by
  simp only [bitsB, List.all_eq_true, Bool.and_eq_true, decide_eq_true_eq]
  intro a ha
  obtain ⟨j, hj, rfl⟩ := List.getElem_of_mem ha
  have := h j (by omega)
  rwa [getI zs j hj] at this
theorem numTo_rng (zs : List Int) (h : ∀ j, 0 ≤ zs.getD j 0 ∧ zs.getD j 0 ≤ 1) : ∀ k, 0 ≤ numTo zs k ∧ numTo zs k < 2 ^ k
  | 0 => by simp [numTo]
  | k + 1 => by
    have ih := numTo_rng zs h k
    have h1 := h k
    simp only [numTo]
    rw [Int.pow_succ]
    have hp : (0 : Int) < 2 ^ k := Int.pow_pos (by decide)
    generalize (2 : Int) ^ k = X at *
    rcases (show zs.getD k 0 = 0 ∨ zs.getD k 0 = 1 by omega) with e | e
    · rw [e]; omega
    · rw [e]; omega
theorem pow_le32 {k : Nat} (hk : k ≤ 32) : (1 : Int) ≤ 2 ^ k ∧ (2 : Int) ^ k ≤ 4294967296 := by
  have h1 : 2 ^ k ≤ 2 ^ 32 := Nat.pow_le_pow_right (by decide) hk
  have h2 : 1 ≤ 2 ^ k := Nat.one_le_two_pow
  have e : ((2 : Int) ^ k) = ((2 ^ k : Nat) : Int) := by simp
  rw [e]
  generalize 2 ^ k = X at *
  omega
end Go.Proofs.Ytapljpcpmdlppaa
