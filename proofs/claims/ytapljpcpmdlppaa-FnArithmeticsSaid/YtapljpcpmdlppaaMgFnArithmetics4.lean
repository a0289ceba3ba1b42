/-
  Plain facts on numbers: primes up to 101, powers of two. No program.
-/
import Derived.Test.YtapljpcpmdlppaaMgFnArithmetics0
import Derived.Laws.BitsAllLaws
import Derived.Laws.BitsLemmas
namespace Go.Proofs.Ytapljpcpmdlppaa
/-- p is a prime of at most 101. -/
def fieldB (p : Int) : Bool := [2, 3, 5, 7, 11, 13, 17, 19, 23, 29, 31, 37, 41, 43, 47, 53, 59, 61, 67, 71, 73, 79, 83, 89, 97, 101].contains p
def fieldN (p : Nat) : Bool := [2, 3, 5, 7, 11, 13, 17, 19, 23, 29, 31, 37, 41, 43, 47, 53, 59, 61, 67, 71, 73, 79, 83, 89, 97, 101].contains p
theorem field_range {p : Int} (h : fieldB p = true) : 2 ≤ p ∧ p ≤ 101 := by
  simp [fieldB] at h
  omega
theorem fieldB_nat : ∀ n : Nat, n < 102 → fieldB (n : Int) = fieldN n := by decide +kernel
theorem field_small {p : Int} (h : p < 2 ∨ 101 < p) : fieldB p = false := by
  cases hb : fieldB p with
  | false => rfl
  | true => have := field_range hb; omega
theorem fieldN_yes : ∀ n : Nat, n < 102 → 2 ≤ n → (∀ d : Nat, d < n → 2 ≤ d → n % d ≠ 0) → fieldN n = true := by decide +kernel
theorem fieldN_no : ∀ n : Nat, n < 102 → ∀ d : Nat, d < n → 2 ≤ d → n % d = 0 → fieldN n = false := by decide +kernel
def noDiv (n d : Nat) : Bool := (List.range d).all fun e => decide (e < 2) || n % e != 0
theorem fieldN_sq : ∀ n : Nat, n < 102 → ∀ d : Nat, d < 12 → (decide (2 ≤ n) && decide (n < d * d) && noDiv n d) = true → fieldN n = true := by decide +kernel
theorem field_yes {p : Int} (h2 : 2 ≤ p) (h3 : p ≤ 101) (h : ∀ d : Nat, 2 ≤ d → (d : Int) < p → p % (d : Int) ≠ 0) : fieldB p = true := by
  obtain ⟨n, rfl⟩ := Int.eq_ofNat_of_zero_le (show 0 ≤ p by omega)
  have hf := fieldB_nat n (by omega)
  have hy := fieldN_yes n (by omega) (by omega) fun d hd h2d => by
    have := h d h2d (by omega)
    intro e
    apply this
    rw [← Int.natCast_emod, e]; rfl
  exact hf.trans hy
theorem field_no {p : Int} {d : Nat} (h2 : 2 ≤ d) (hd : (d : Int) < p) (h : p % (d : Int) = 0) : fieldB p = false := by
  by_cases h3 : 101 < p
  · exact field_small (.inr h3)
  · obtain ⟨n, rfl⟩ := Int.eq_ofNat_of_zero_le (show 0 ≤ p by omega)
    have hf := fieldB_nat n (by omega)
    exact hf.trans (fieldN_no n (by omega) d (by omega) h2 (by rw [← Int.natCast_emod] at h; omega))
theorem field_sq {p : Int} {d : Nat} (h2 : 2 ≤ p) (h3 : p ≤ 101) (hd : d < 12) (hs : p < (d : Int) * (d : Int)) (h : ∀ e : Nat, 2 ≤ e → e < d → p % (e : Int) ≠ 0) : fieldB p = true := by
  obtain ⟨n, rfl⟩ := Int.eq_ofNat_of_zero_le (show 0 ≤ p by omega)
  have hf := fieldB_nat n (by omega)
  have hs' : n < d * d := by
    have : (n : Int) < ((d * d : Nat) : Int) := by rw [Int.natCast_mul]; exact hs
    omega
  refine hf.trans (fieldN_sq n (by omega) d hd ?_)
  simp only [Bool.and_eq_true, decide_eq_true_eq]
  refine ⟨⟨by omega, hs'⟩, ?_⟩
  unfold noDiv
  rw [List.all_eq_true]
  intro e he
  rw [List.mem_range] at he
  by_cases h2e : e < 2
  · simp [h2e]
  · have := h e (by omega) he
    have hne : n % e ≠ 0 := fun e' => this (by rw [← Int.natCast_emod, e']; rfl)
    simp [hne]
theorem ofInt_i64 (a : Nat) (ha : a < 9223372036854775808) : (BitVec.ofInt 64 (a : Int)).toNat = a := by
  rw [BitVec.ofInt_natCast, BitVec.toNat_ofNat]; exact Nat.mod_eq_of_lt (by omega)
theorem and_nat (a b : Nat) (ha : a < 9223372036854775808) (hb : b < 9223372036854775808) : bits .and .i64 (a : Int) (b : Int) = ((a &&& b : Nat) : Int) := by
  have hx : a &&& b < 2 ^ 63 := Nat.and_lt_two_pow _ (by omega)
  show IntKind.i64.wrap ((BitVec.ofInt 64 (a : Int) &&& BitVec.ofInt 64 (b : Int)).toNat : Int) = _
  rw [BitVec.toNat_and, ofInt_i64 a ha, ofInt_i64 b hb, IntKind.wrap_i64]
  omega
theorem xor_nat (a b : Nat) (ha : a < 9223372036854775808) (hb : b < 9223372036854775808) : bits .xor .i64 (a : Int) (b : Int) = ((a ^^^ b : Nat) : Int) := by
  have hx : a ^^^ b < 2 ^ 63 := Nat.xor_lt_two_pow (by omega) (by omega)
  show IntKind.i64.wrap ((BitVec.ofInt 64 (a : Int) ^^^ BitVec.ofInt 64 (b : Int)).toNat : Int) = _
  rw [BitVec.toNat_xor, ofInt_i64 a ha, ofInt_i64 b hb, IntKind.wrap_i64]
  omega
/-- How many of the first k numbers have a bit among the lowest b. -/
def hits (b : Nat) : Nat → Nat
  | 0 => 0
  | k + 1 => hits b k + if k &&& (2 ^ b - 1) = 0 then 0 else 1
theorem hits_le (b : Nat) : ∀ k, hits b k ≤ k
  | 0 => Nat.le_refl _
  | k + 1 => by
    have := hits_le b k
    unfold hits
    split <;> omega
theorem hits_all : ∀ n, n < 9 → ∀ b, b < n + 1 → hits b (2 ^ n) + 2 ^ (n - b) = 2 ^ n := by decide +kernel
def caught (n b : Int) : Int := if 0 ≤ n ∧ n ≤ 8 ∧ 0 ≤ b ∧ b ≤ n then ((2 ^ n.toNat - 2 ^ (n.toNat - b.toNat) : Nat) : Int) else -1
theorem two_pow_le {n : Nat} (h : n ≤ 8) : 2 ^ n ≤ 256 := Nat.pow_le_pow_right (n := 2) (by omega) h
theorem two_pow_pos' (n : Nat) : 1 ≤ 2 ^ n := Nat.one_le_two_pow
end Go.Proofs.Ytapljpcpmdlppaa
