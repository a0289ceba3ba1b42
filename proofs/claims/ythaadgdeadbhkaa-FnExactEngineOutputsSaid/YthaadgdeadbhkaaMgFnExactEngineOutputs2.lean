/-
  Plain facts on numbers: primes up to 101, powers of two. No program.
-/
import Derived.Test.YthaadgdeadbhkaaMgFnExactEngineOutputs0
import Derived.Laws.BitsAllLaws
import Derived.Laws.BitsLemmas
import Derived.Test.YthaadgdeadbhkaaMgFnExactEngineOutputs1
namespace Go.Proofs.Ythaadgdeadbhkaa
def fieldB (p : Int) : Bool := [2, 3, 5, 7, 11, 13, 17, 19, 23, 29, 31, 37, 41, 43, 47, 53, 59, 61, 67, 71, 73, 79, 83, 89, 97, 101].contains p
def fieldN (p : Nat) : Bool := [2, 3, 5, 7, 11, 13, 17, 19, 23, 29, 31, 37, 41, 43, 47, 53, 59, 61, 67, 71, 73, 79, 83, 89, 97, 101].contains p
theorem field_range {p : Int} (h : fieldB p = true) : 2 ≤ p ∧ p ≤ 101 := by
  simp [fieldB] at h
  omega
theorem fieldB_nat : ∀ n : Nat, n < 102 → fieldB (n : Int) = fieldN n := by decide +kernel
theorem field_small {p : Int} (h : p < 2 ∨ 101 < p) : fieldB p = false := by
  cases hb : fieldB p with
  | false => rfl
  | true => have := field_range hb; omega
theorem fieldN_yes : ∀ n : Nat, n < 102 → 2 ≤ n → (∀ d : Nat, d < n → 2 ≤ d → n % d ≠ 0) → fieldN n = true := by decide +kernel
theorem fieldN_no : ∀ n : Nat, n < 102 → ∀ d : Nat, d < n → 2 ≤ d → n % d = 0 → fieldN n = false := by decide +kernel
def noDiv (n d : Nat) : Bool := (List.range d).all fun e => decide (e < 2) || n % e != 0
theorem fieldN_sq : ∀ n : Nat, n < 102 → ∀ d : Nat, d < 12 → (decide (2 ≤ n) && decide (n < d * d) && noDiv n d) = true → fieldN n = true := by decide +kernel
theorem field_yes {p : Int} (h2 : 2 ≤ p) (h3 : p ≤ 101) (h : ∀ d : Nat, 2 ≤ d → (d : Int) < p → p % (d : Int) ≠ 0) : fieldB p = true := by
  obtain ⟨n, rfl⟩ := Int.eq_ofNat_of_zero_le (show 0 ≤ p by omega)
  have hf := fieldB_nat n (by omega)
  have hy := fieldN_yes n (by omega) (by omega) fun d hd h2d => by
    have := h d h2d (by omega)
    intro e
    apply this
    rw [← Int.natCast_emod, e]; rfl
  exact hf.trans hy
theorem field_no {p : Int} {d : Nat} (h2 : 2 ≤ d) (hd : (d : Int) < p) (h : p % (d : Int) = 0) : fieldB p = false := by
  by_cases h3 : 101 < p
  · exact field_small (.inr h3)
  · obtain ⟨n, rfl⟩ := Int.eq_ofNat_of_zero_le (show 0 ≤ p by omega)
    have hf := fieldB_nat n (by omega)
    exact hf.trans (fieldN_no n (by omega) d (by omega) h2 (by rw [← Int.natCast_emod] at h; omega))
theorem field_sq {p : Int} {d : Nat} (h2 : 2 ≤ p) (h3 : p ≤ 101) (hd : d < 12) (hs : p < (d : Int) * (d : Int)) (h : ∀ e : Nat, 2 ≤ e → e < d → p % (e : Int) ≠ 0) : fieldB p = true := by
  obtain ⟨n, rfl⟩ := Int.eq_ofNat_of_zero_le (show 0 ≤ p by omega)
  have hf := fieldB_nat n (by omega)
  have hs' : n < d * d := by
    have : (n : Int) < ((d * d : Nat) : Int) := by rw [Int.natCast_mul]; exact hs
    omega
  refine hf.trans (fieldN_sq n (by omega) d hd ?_)
  simp only [Bool.and_eq_true, decide_eq_true_eq]
  refine ⟨⟨by omega, hs'⟩, ?_⟩
  unfold noDiv
  rw [List.all_eq_true]
  intro e he
  rw [List.mem_range] at he
  by_cases h2e : e < 2
  · simp [h2e]
  · have := h e (by omega) he
    have hne : n % e ≠ 0 := fun e' => this (by rw [← Int.natCast_emod, e']; rfl)
    simp [hne]
end Go.Proofs.Ythaadgdeadbhkaa
/-
  CountCaught: the reference counts, the program subtracts: the same number. FnExactCountCaught and FnSubsets' callee.
-/
namespace Go.Proofs.Ythaadgdeadbhkaa
open Go.RowKit
set_option linter.unusedVariables false
set_option linter.unusedSimpArgs false
theorem wrap_small {x : Int} (h0 : -1099511627776 ≤ x) (h1 : x ≤ 1099511627776) : wrap64 x = x := IntWalk.wrap64_in x ⟨by omega, by omega⟩
end Go.Proofs.Ythaadgdeadbhkaa
/-
  AllZero, and the laws FnExactCountCaught and FnExactAllZero.
-/
namespace Go.Proofs.Ythaadgdeadbhkaa
open Go.RowKit
set_option linter.unusedVariables false
set_option linter.unusedSimpArgs false
theorem Ints.cell {w : World} {A : Option Addr} {n : Nat} {zs : List Int} (h : Ints w A n zs) {k : Nat} (hk : k < n) :
    ∃ b o, A = some ⟨b, o, none⟩ ∧ b < w.heap.size ∧ w.cell? ⟨b, o + k, none⟩ = some (.int .i64 (zs.getD k 0)) := by
  obtain ⟨b, o, e, hb, hc⟩ := h.at_ (by omega)
  exact ⟨b, o, e, hb, hc k hk⟩
end Go.Proofs.Ythaadgdeadbhkaa
/-
  within, l01In, IsWord: by what they answer.
-/
namespace Go.Proofs.Ythaadgdeadbhkaa
open Go.RowKit
set_option linter.unusedVariables false
set_option linter.unusedSimpArgs false
def inQ (z a b : Int) : Bool := decide (a ≤ z) && decide (z ≤ b)
theorem inQ_yes {z a b : Int} (h1 : a ≤ z) (h2 : z ≤ b) : inQ z a b = true := by simp [inQ, h1, h2]
theorem inQ_lo {z a b : Int} (h1 : z < a) : inQ z a b = false := by
  have : ¬ a ≤ z := by omega
  simp [inQ, this]
theorem inQ_hi {z a b : Int} (h1 : b < z) : inQ z a b = false := by
  have : ¬ z ≤ b := by omega
  simp [inQ, this]
theorem inQ_is {z a b : Int} (h : inQ z a b = true) : a ≤ z ∧ z ≤ b := by simpa [inQ] using h
theorem specInq_c (z a b : Int) (w : World) : Calls Try.prog 92 #[.int .i64 z, .int .i64 a, .int .i64 b] w fun e w' => e = .returned (.bool (inQ z a b)) ∧ w = w' := by
  by_cases h1 : a ≤ z
  · by_cases h2 : z ≤ b
    · have HQ := Lib.hid (inQ_yes h1 h2)
      go_enter Try.func92, Try.ntmps92
      go_wp2_with fail
      go_ret
      exact ⟨retB (by rw [HQ.out]), rfl⟩
    · have HQ := Lib.hid (inQ_hi (a := a) (show b < z by omega))
      have h3 : ¬ z ≤ b := h2
      go_enter Try.func92, Try.ntmps92
      go_wp2_with fail
      go_ret
      exact ⟨retB (by rw [HQ.out]), rfl⟩
  · have HQ := Lib.hid (inQ_lo (b := b) (show z < a by omega))
    go_enter Try.func92, Try.ntmps92
    go_wp2_with fail
    go_ret
    exact ⟨retB (by rw [HQ.out]), rfl⟩
theorem implInq_c (z a b : Int) (w : World) : Calls Try.prog 94 #[.int .i64 z, .int .i64 a, .int .i64 b] w fun e w' => e = .returned (.bool (inQ z a b)) ∧ w = w' := by
  by_cases h1 : a ≤ z
  · by_cases h2 : z ≤ b
    · have HQ := Lib.hid (inQ_yes h1 h2)
      go_enter Try.func94, Try.ntmps94
      go_wp2_with fail
      go_ret
      exact ⟨retB (by rw [HQ.out]), rfl⟩
    · have HQ := Lib.hid (inQ_hi (a := a) (show b < z by omega))
      have h3 : ¬ z ≤ b := h2
      go_enter Try.func94, Try.ntmps94
      go_wp2_with fail
      go_ret
      exact ⟨retB (by rw [HQ.out]), rfl⟩
  · have HQ := Lib.hid (inQ_lo (b := b) (show z < a by omega))
    go_enter Try.func94, Try.ntmps94
    go_wp2_with fail
    go_ret
    exact ⟨retB (by rw [HQ.out]), rfl⟩
end Go.Proofs.Ythaadgdeadbhkaa
