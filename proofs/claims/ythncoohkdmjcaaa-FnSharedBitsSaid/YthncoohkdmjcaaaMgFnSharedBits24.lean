/-
  XorField, XorAll: reference and program, and their exact laws.
-/
import Derived.Test.YthncoohkdmjcaaaMgFnSharedBits23
import Derived.IntWalk
namespace Go.Proofs.Ythncoohkdmjcaaa
open Go.RowKit
set_option linter.unusedVariables false
set_option linter.unusedSimpArgs false
def xorF (p a b : Int) : Int := (a + b - 2 * a * b) % p
theorem xorF_impl (p a b : Int) : (Int.tmod (a + b - 2 * a * b) p + p) % p = xorF p a b := by
  unfold xorF
  generalize a + b - 2 * a * b = x
  have h := Int.tmod_add_tdiv_mul x p
  have e : Int.tmod x p + p = x + p * (1 - Int.tdiv x p) := by
    rw [Int.mul_sub, Int.mul_comm p (Int.tdiv x p)]; omega
  rw [e, Int.add_mul_emod_self_left]
theorem xorF_spec (p a b : Int) : ((a + b) % p + p - (2 * a * b) % p) % p = xorF p a b := by
  unfold xorF
  rw [Int.emod_def (a + b) p, Int.emod_def (2 * a * b) p]
  have e : a + b - p * ((a + b) / p) + p - (2 * a * b - p * (2 * a * b / p)) = (a + b - 2 * a * b) + p * (1 - (a + b) / p + 2 * a * b / p) := by
    rw [Int.mul_add, Int.mul_sub]; omega
  rw [e, Int.add_mul_emod_self_left]
theorem xorF_rng (p a b : Int) (hp : 2 ≤ p) : 0 ≤ xorF p a b ∧ xorF p a b < p := ⟨Int.emod_nonneg _ (by omega), Int.emod_lt_of_pos _ (by omega)⟩
def xorTo (p : Int) (zs : List Int) : Nat → Int
  | 0 => 0
  | k + 1 => xorF p (xorTo p zs k) (zs.getD k 0)
theorem xorTo_rng (p : Int) (zs : List Int) (hp : 2 ≤ p) : ∀ k, 0 ≤ xorTo p zs k ∧ xorTo p zs k < p
  | 0 => by simp [xorTo]; omega
  | k + 1 => xorF_rng p _ _ hp
theorem prod_le {a b m : Int} (ha : 0 ≤ a) (hb : 0 ≤ b) (ha' : a ≤ m) (hb' : b ≤ m) : 0 ≤ a * b ∧ a * b ≤ m * m :=
  ⟨Int.mul_nonneg ha hb, Int.mul_le_mul ha' hb' hb (by omega)⟩
theorem tmod_emod {a p : Int} (ha : 0 ≤ a) : Int.tmod a p = a % p := Int.tmod_eq_emod_of_nonneg ha
theorem specFSub_yes (p a b : Int) (w : World) (ha : elemB p a = true) (hb : elemB p b = true) :
    Calls Try.prog 89 #[.int .i64 p, .int .i64 a, .int .i64 b] w fun e w' => e = .returned (.int .i64 ((a + p - b) % p)) ∧ w = w' := by
  obtain ⟨_, p2, p101, a0, a1⟩ := elemB_is ha
  obtain ⟨_, _, _, b0, b1⟩ := elemB_is hb
  have HA := Lib.hid ha
  have HB := Lib.hid hb
  clear ha hb
  go_enter Try.func89, Try.ntmps89
  go_wp2_with fail
  refine (specl03Both_c p a b _ (by omega)).mono ?_
  rintro e w1 ⟨rfl, rfl⟩
  rw [HA.out, HB.out, Bool.and_self]
  go_wp2_with fail
  go_ret
  exact ⟨rfl, rfl⟩
end Go.Proofs.Ythncoohkdmjcaaa
/-
  XorAll: reference and program, and its exact law.
-/
namespace Go.Proofs.Ythncoohkdmjcaaa
open Go.RowKit
set_option linter.unusedVariables false
set_option linter.unusedSimpArgs false
theorem xorTo_elem {p : Int} (zs : List Int) (hf : fieldB p = true) (k : Nat) : elemB p (xorTo p zs k) = true := by
  have := field_range hf
  have h := xorTo_rng p zs (by omega) k
  exact elemB_mk hf h.1 h.2
theorem elemB_of {p : Int} {zs : List Int} (h : elemsB p zs = true) {k : Nat} (hk : k < zs.length) : elemB p (zs.getD k 0) = true := by
  have h1 := elemsB_is h
  have h2 := h1.2.2.2 zs[k] (List.getElem_mem hk)
  rw [getI zs k hk]
  exact elemB_mk h1.1 h2.1 h2.2
end Go.Proofs.Ythncoohkdmjcaaa
