/-
  Contracts of the laws' small helpers on slices of numbers: eqIntS, heldIntS, markIntS, toIntS.
-/
import Derived.Test.YthdfkiaoahpjpaaMgFnCaught0
import Derived.Laws.BitsAllLaws
import Derived.Laws.BitsLemmas
namespace Go.Proofs.Ythdfkiaoahpjpaa
open Go.RowKit
theorem take_eq_succ {α : Type} [Inhabited α] (xs ys : List α) (d : α) (k : Nat) (hx : k < xs.length) (hy : k < ys.length) (h : xs.take k = ys.take k) (he : xs[k]?.getD d = ys[k]?.getD d) : xs.take (k + 1) = ys.take (k + 1) := by
  rw [List.take_succ_eq_append_getElem hx, List.take_succ_eq_append_getElem hy, h]
  simp [List.getElem?_eq_getElem hx, List.getElem?_eq_getElem hy] at he
  rw [he]
theorem ne_of_at {α : Type} (xs ys : List α) (d : α) (k : Nat) (he : ¬ xs[k]?.getD d = ys[k]?.getD d) : ¬ xs = ys := by
  rintro rfl; exact he rfl
theorem eq_of_take {α : Type} (xs ys : List α) (n : Nat) (hx : xs.length = n) (hy : ys.length = n) (h : xs.take n = ys.take n) : xs = ys := by
  rwa [List.take_of_length_le (by omega), List.take_of_length_le (by omega)] at h
theorem el_int : El Try.prog 24 3 (.int .i64 0) 1 8 := ⟨Try.underlying24, by kernel_rfl, rfl, by decide⟩
def IntsK (k : IntKind) (w : World) (A : Option Addr) (n : Nat) (zs : List Int) : Prop := Rd w 1 A n (zs.map (Value.int k)) ∧ (∀ z ∈ zs, (Lit.int k z).wf = true)
theorem IntsK.ints {w : World} {A : Option Addr} {n : Nat} {zs : List Int} (h : IntsK .i64 w A n zs) : Ints w A n zs := h.1
end Go.Proofs.Ythdfkiaoahpjpaa
/-
  Plain facts on numbers: primes up to 101, powers of two. No program.
-/
namespace Go.Proofs.Ythdfkiaoahpjpaa
def fieldB (p : Int) : Bool := [2, 3, 5, 7, 11, 13, 17, 19, 23, 29, 31, 37, 41, 43, 47, 53, 59, 61, 67, 71, 73, 79, 83, 89, 97, 101].contains p
theorem ofInt_i64 (a : Nat) (ha : a < 9223372036854775808) : (BitVec.ofInt 64 (a : Int)).toNat = a := by
  rw [BitVec.ofInt_natCast, BitVec.toNat_ofNat]; exact Nat.mod_eq_of_lt (by omega)
theorem and_nat (a b : Nat) (ha : a < 9223372036854775808) (hb : b < 9223372036854775808) : bits .and .i64 (a : Int) (b : Int) = ((a &&& b : Nat) : Int) := by
  have hx : a &&& b < 2 ^ 63 := Nat.and_lt_two_pow _ (by omega)
  show IntKind.i64.wrap ((BitVec.ofInt 64 (a : Int) &&& BitVec.ofInt 64 (b : Int)).toNat : Int) = _
  rw [BitVec.toNat_and, ofInt_i64 a ha, ofInt_i64 b hb, IntKind.wrap_i64]
  omega
theorem xor_nat (a b : Nat) (ha : a < 9223372036854775808) (hb : b < 9223372036854775808) : bits .xor .i64 (a : Int) (b : Int) = ((a ^^^ b : Nat) : Int) := by
  have hx : a ^^^ b < 2 ^ 63 := Nat.xor_lt_two_pow (by omega) (by omega)
  show IntKind.i64.wrap ((BitVec.ofInt 64 (a : Int) ^^^ BitVec.ofInt 64 (b : Int)).toNat : Int) = _
  rw [BitVec.toNat_xor, ofInt_i64 a ha, ofInt_i64 b hb, IntKind.wrap_i64]
  omega
end Go.Proofs.Ythdfkiaoahpjpaa
/-
  CountCaught: the reference counts, the program subtracts: the same number. FnExactCountCaught and FnSubsets' callee.
-/
namespace Go.Proofs.Ythdfkiaoahpjpaa
open Go.RowKit
set_option linter.unusedVariables false
set_option linter.unusedSimpArgs false
end Go.Proofs.Ythdfkiaoahpjpaa
/-
  AllZero, and the laws FnExactCountCaught and FnExactAllZero.
-/
namespace Go.Proofs.Ythdfkiaoahpjpaa
open Go.RowKit
set_option linter.unusedVariables false
set_option linter.unusedSimpArgs false
theorem Ints.cell {w : World} {A : Option Addr} {n : Nat} {zs : List Int} (h : Ints w A n zs) {k : Nat} (hk : k < n) :
    ∃ b o, A = some ⟨b, o, none⟩ ∧ b < w.heap.size ∧ w.cell? ⟨b, o + k, none⟩ = some (.int .i64 (zs.getD k 0)) := by
  obtain ⟨b, o, e, hb, hc⟩ := h.at_ (by omega)
  exact ⟨b, o, e, hb, hc k hk⟩
end Go.Proofs.Ythdfkiaoahpjpaa
/-
  within, l01In, IsWord: by what they answer.
-/
namespace Go.Proofs.Ythdfkiaoahpjpaa
open Go.RowKit
set_option linter.unusedVariables false
set_option linter.unusedSimpArgs false
def inQ (z a b : Int) : Bool := decide (a ≤ z) && decide (z ≤ b)
theorem inQ_yes {z a b : Int} (h1 : a ≤ z) (h2 : z ≤ b) : inQ z a b = true := by simp [inQ, h1, h2]
theorem inQ_lo {z a b : Int} (h1 : z < a) : inQ z a b = false := by
  have : ¬ a ≤ z := by omega
  simp [inQ, this]
theorem inQ_hi {z a b : Int} (h1 : b < z) : inQ z a b = false := by
  have : ¬ z ≤ b := by omega
  simp [inQ, this]
theorem inQ_is {z a b : Int} (h : inQ z a b = true) : a ≤ z ∧ z ≤ b := by simpa [inQ] using h
theorem implInq_c (z a b : Int) (w : World) : Calls Try.prog 54 #[.int .i64 z, .int .i64 a, .int .i64 b] w fun e w' => e = .returned (.bool (inQ z a b)) ∧ w = w' := by
  by_cases h1 : a ≤ z
  · by_cases h2 : z ≤ b
    · have HQ := Lib.hid (inQ_yes h1 h2)
      go_enter Try.func54, Try.ntmps54
      go_wp2_with fail
      go_ret
      exact ⟨retB (by rw [HQ.out]), rfl⟩
    · have HQ := Lib.hid (inQ_hi (a := a) (show b < z by omega))
      have h3 : ¬ z ≤ b := h2
      go_enter Try.func54, Try.ntmps54
      go_wp2_with fail
      go_ret
      exact ⟨retB (by rw [HQ.out]), rfl⟩
  · have HQ := Lib.hid (inQ_lo (b := b) (show z < a by omega))
    go_enter Try.func54, Try.ntmps54
    go_wp2_with fail
    go_ret
    exact ⟨retB (by rw [HQ.out]), rfl⟩
theorem implWordq_c (z : Int) (w : World) : Calls Try.prog 75 #[.int .i64 z] w fun e w' => e = .returned (.bool (inQ z 0 4294967295)) ∧ w = w' := by
  go_enter Try.func75, Try.ntmps75
  go_wp2_with fail
  refine (implInq_c z 0 4294967295 _).mono ?_
  rintro e w1 ⟨rfl, rfl⟩
  go_wp2_with fail
  go_ret
  exact ⟨rfl, rfl⟩
end Go.Proofs.Ythdfkiaoahpjpaa
