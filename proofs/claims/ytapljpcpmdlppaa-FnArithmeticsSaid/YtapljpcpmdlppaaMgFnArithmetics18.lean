/-
  XorField, XorAll: reference and program, and their exact laws.
-/
import Derived.Test.YtapljpcpmdlppaaMgFnArithmetics16
import Derived.IntWalk
import Derived.Test.YtapljpcpmdlppaaMgFnArithmetics5
namespace Go.Proofs.Ytapljpcpmdlppaa
open Go.RowKit
set_option linter.unusedVariables false
set_option linter.unusedSimpArgs false
def xorF (p a b : Int) : Int := (a + b - 2 * a * b) % p
theorem xorF_impl (p a b : Int) : (Int.tmod (a + b - 2 * a * b) p + p) % p = xorF p a b := by
  unfold xorF
  generalize a + b - 2 * a * b = x
  have h := Int.tmod_add_tdiv_mul x p
  have e : Int.tmod x p + p = x + p * (1 - Int.tdiv x p) := by
    rw [Int.mul_sub, Int.mul_comm p (Int.tdiv x p)]; omega
  rw [e, Int.add_mul_emod_self_left]
theorem xorF_spec (p a b : Int) : ((a + b) % p + p - (2 * a * b) % p) % p = xorF p a b := by
  unfold xorF
  rw [Int.emod_def (a + b) p, Int.emod_def (2 * a * b) p]
  have e : a + b - p * ((a + b) / p) + p - (2 * a * b - p * (2 * a * b / p)) = (a + b - 2 * a * b) + p * (1 - (a + b) / p + 2 * a * b / p) := by
    rw [Int.mul_add, Int.mul_sub]; omega
  rw [e, Int.add_mul_emod_self_left]
theorem xorF_rng (p a b : Int) (hp : 2 ≤ p) : 0 ≤ xorF p a b ∧ xorF p a b < p := ⟨Int.emod_nonneg _ (by omega), Int.emod_lt_of_pos _ (by omega)⟩
def xorTo (p : Int) (zs : List Int) : Nat → Int
  | 0 => 0
  | k + 1 => xorF p (xorTo p zs k) (zs.getD k 0)
theorem xorTo_rng (p : Int) (zs : List Int) (hp : 2 ≤ p) : ∀ k, 0 ≤ xorTo p zs k ∧ xorTo p zs k < p
  | 0 => by simp [xorTo]; omega
  | k + 1 => xorF_rng p _ _ hp
theorem prod_le {a b m : Int} (ha : 0 ≤ a) (hb : 0 ≤ b) (ha' : a ≤ m) (hb' : b ≤ m) : 0 ≤ a * b ∧ a * b ≤ m * m :=
  ⟨Int.mul_nonneg ha hb, Int.mul_le_mul ha' hb' hb (by omega)⟩
theorem tmod_emod {a p : Int} (ha : 0 ≤ a) : Int.tmod a p = a % p := Int.tmod_eq_emod_of_nonneg ha
theorem specFAdd_yes (p a b : Int) (w : World) (ha : elemB p a = true) (hb : elemB p b = true) :
    Calls Try.prog 101 #[.int .i64 p, .int .i64 a, .int .i64 b] w fun e w' => e = .returned (.int .i64 ((a + b) % p)) ∧ w = w' := by
  obtain ⟨_, p2, p101, a0, a1⟩ := elemB_is ha
  obtain ⟨_, _, _, b0, b1⟩ := elemB_is hb
  have HA := Lib.hid ha
  have HB := Lib.hid hb
  clear ha hb
  go_enter Try.func101, Try.ntmps101
  go_wp2_with fail
  refine (specl03Both_c p a b _ (by omega)).mono ?_
  rintro e w1 ⟨rfl, rfl⟩
  rw [HA.out, HB.out, Bool.and_self]
  go_wp2_with fail
  go_ret
  exact ⟨rfl, rfl⟩
theorem specFSub_yes (p a b : Int) (w : World) (ha : elemB p a = true) (hb : elemB p b = true) :
    Calls Try.prog 164 #[.int .i64 p, .int .i64 a, .int .i64 b] w fun e w' => e = .returned (.int .i64 ((a + p - b) % p)) ∧ w = w' := by
  obtain ⟨_, p2, p101, a0, a1⟩ := elemB_is ha
  obtain ⟨_, _, _, b0, b1⟩ := elemB_is hb
  have HA := Lib.hid ha
  have HB := Lib.hid hb
  clear ha hb
  go_enter Try.func164, Try.ntmps164
  go_wp2_with fail
  refine (specl03Both_c p a b _ (by omega)).mono ?_
  rintro e w1 ⟨rfl, rfl⟩
  rw [HA.out, HB.out, Bool.and_self]
  go_wp2_with fail
  go_ret
  exact ⟨rfl, rfl⟩
end Go.Proofs.Ytapljpcpmdlppaa
/-
  XorAll: reference and program, and its exact law.
-/
namespace Go.Proofs.Ytapljpcpmdlppaa
open Go.RowKit
set_option linter.unusedVariables false
set_option linter.unusedSimpArgs false
theorem xorTo_elem {p : Int} (zs : List Int) (hf : fieldB p = true) (k : Nat) : elemB p (xorTo p zs k) = true := by
  have := field_range hf
  have h := xorTo_rng p zs (by omega) k
  exact elemB_mk hf h.1 h.2
theorem elemB_of {p : Int} {zs : List Int} (h : elemsB p zs = true) {k : Nat} (hk : k < zs.length) : elemB p (zs.getD k 0) = true := by
  have h1 := elemsB_is h
  have h2 := h1.2.2.2 zs[k] (List.getElem_mem hk)
  rw [getI zs k hk]
  exact elemB_mk h1.1 h2.1 h2.2
end Go.Proofs.Ytapljpcpmdlppaa
/-
  DotBits and NumberOf: reference and program, and their exact laws.
-/
namespace Go.Proofs.Ytapljpcpmdlppaa
open Go.RowKit
set_option linter.unusedVariables false
set_option linter.unusedSimpArgs false
/-- The sum so far and the next power. -/
def dotTo (p : Int) (zs : List Int) : Nat → Int × Int
  | 0 => (0, 1)
  | k + 1 => (((dotTo p zs k).1 + zs.getD k 0 * (dotTo p zs k).2) % p, 2 * (dotTo p zs k).2 % p)
theorem dotTo_rng (p : Int) (zs : List Int) (hp : 2 ≤ p) : ∀ k, (0 ≤ (dotTo p zs k).1 ∧ (dotTo p zs k).1 < p) ∧ (0 ≤ (dotTo p zs k).2 ∧ (dotTo p zs k).2 < p)
  | 0 => by simp [dotTo]; omega
  | k + 1 => ⟨⟨Int.emod_nonneg _ (by omega), Int.emod_lt_of_pos _ (by omega)⟩, ⟨Int.emod_nonneg _ (by omega), Int.emod_lt_of_pos _ (by omega)⟩⟩
def dotB (p : Int) (zs : List Int) : Bool := elemsB p zs && decide (zs.length ≤ 32)
theorem elemB_rng {p : Int} {zs : List Int} (h : elemsB p zs = true) {k : Nat} (hk : k < zs.length) : 0 ≤ zs.getD k 0 ∧ zs.getD k 0 < p := by
  have h1 := elemsB_is h
  rw [getI zs k hk]
  exact h1.2.2.2 zs[k] (List.getElem_mem hk)
def numTo (zs : List Int) : Nat → Int
  | 0 => 0
  | k + 1 => numTo zs k + zs.getD k 0 * 2 ^ k
def bitsB (zs : List Int) : Bool := zs.all fun b => decide (0 ≤ b) && decide (b ≤ 1)
theorem bitsB_at {zs : List Int} (h : bitsB zs = true) (j : Nat) : 0 ≤ zs.getD j 0 ∧ zs.getD j 0 ≤ 1 := by
  by_cases hj : j < zs.length
  · rw [getI zs j hj]
    simp only [bitsB, List.all_eq_true, Bool.and_eq_true, decide_eq_true_eq] at h
    exact h _ (List.getElem_mem hj)
  · simp [List.getD_eq_getElem?_getD, List.getElem?_eq_none (show zs.length ≤ j by omega)]
theorem bitsB_out {zs : List Int} {k : Nat} (hk : k < zs.length) (h : ¬ (0 ≤ zs.getD k 0 ∧ zs.getD k 0 ≤ 1)) : bitsB zs = false := by
  cases hb : bitsB zs with
  | false => rfl
  | true => exact absurd (bitsB_at hb k) h
theorem bitsB_all {zs : List Int} {n : Nat} (hl : zs.length = n) (h : ∀ j, j < n → 0 ≤ zs.getD j 0 ∧ zs.getD j 0 ≤ 1) : bitsB zs = true := by
  simp only [bitsB, List.all_eq_true, Bool.and_eq_true, decide_eq_true_eq]
  intro a ha
  obtain ⟨j, hj, rfl⟩ := List.getElem_of_mem ha
  have := h j (by omega)
  rwa [getI zs j hj] at this
theorem numTo_rng (zs : List Int) (h : ∀ j, 0 ≤ zs.getD j 0 ∧ zs.getD j 0 ≤ 1) : ∀ k, 0 ≤ numTo zs k ∧ numTo zs k < 2 ^ k
  | 0 => by simp [numTo]
  | k + 1 => by
    have ih := numTo_rng zs h k
    have h1 := h k
    simp only [numTo]
    rw [Int.pow_succ]
    have hp : (0 : Int) < 2 ^ k := Int.pow_pos (by decide)
    generalize (2 : Int) ^ k = X at *
    rcases (show zs.getD k 0 = 0 ∨ zs.getD k 0 = 1 by omega) with e | e
    · rw [e]; omega
    · rw [e]; omega
theorem pow_le32 {k : Nat} (hk : k ≤ 32) : (1 : Int) ≤ 2 ^ k ∧ (2 : Int) ^ k ≤ 4294967296 := by
  have h1 : 2 ^ k ≤ 2 ^ 32 := Nat.pow_le_pow_right (by decide) hk
  have h2 : 1 ≤ 2 ^ k := Nat.one_le_two_pow
  have e : ((2 : Int) ^ k) = ((2 ^ k : Nat) : Int) := by simp
  rw [e]
  generalize 2 ^ k = X at *
  omega
end Go.Proofs.Ytapljpcpmdlppaa
/-
  BitsOf, ChosenBy, FieldOk, FieldBits: reference and program, and the laws that hold them together.
-/
namespace Go.Proofs.Ytapljpcpmdlppaa
open Go.RowKit
set_option linter.unusedVariables false
set_option linter.unusedSimpArgs false

/-- Bit i of x. -/
def bitAt (x : Nat) (i : Nat) : Int := ((x / 2 ^ i % 2 : Nat) : Int)
def bitList (x n : Nat) : List Int := (List.range n).map (bitAt x)
theorem bitList_succ (x n : Nat) : bitList x (n + 1) = bitList x n ++ [bitAt x n] := by simp [bitList, List.range_succ]
theorem bitList_length (x n : Nat) : (bitList x n).length = n := by simp [bitList]
def bitsOf (x n : Int) : List Int := if 0 ≤ x ∧ 0 ≤ n ∧ n ≤ 32 then bitList x.toNat n.toNat else []
theorem bit_and (x k : Nat) : bits .and .i64 ((x : Int) / 2 ^ k) 1 = bitAt x k := by
  have e : ((x : Int) / 2 ^ k) = ((x / 2 ^ k : Nat) : Int) := by simp
  rw [e]
  unfold bitAt
  generalize x / 2 ^ k = y
  show IntKind.i64.wrap ((BitVec.ofInt 64 (y : Int) &&& BitVec.ofInt 64 1).toNat : Int) = _
  rw [BitVec.toNat_and, show (BitVec.ofInt 64 1).toNat = 1 from rfl, BitVec.ofInt_natCast, BitVec.toNat_ofNat, Nat.and_one_is_mod, IntKind.wrap_i64]
  omega
end Go.Proofs.Ytapljpcpmdlppaa
