/-
  BitsOf, ChosenBy, FieldOk, FieldBits: reference and program, and the laws that hold them together.
-/
import Derived.Test.YtapljpcpmdlppaaZero
namespace Go.Proofs.Ytapljpcpmdlppaa
open Go.RowKit
set_option linter.unusedVariables false

/-- Bit i of x. -/
def bitAt (x : Nat) (i : Nat) : Int := ((x / 2 ^ i % 2 : Nat) : Int)
def bitList (x n : Nat) : List Int := (List.range n).map (bitAt x)
theorem bitList_succ (x n : Nat) : bitList x (n + 1) = bitList x n ++ [bitAt x n] := by simp [bitList, List.range_succ]
theorem bitList_length (x n : Nat) : (bitList x n).length = n := by simp [bitList]
def bitsOf (x n : Int) : List Int := if 0 ≤ x ∧ 0 ≤ n ∧ n ≤ 32 then bitList x.toNat n.toNat else []
theorem bit_and (x k : Nat) : bits .and .i64 ((x : Int) / 2 ^ k) 1 = bitAt x k := by
  have e : ((x : Int) / 2 ^ k) = ((x / 2 ^ k : Nat) : Int) := by simp
  rw [e]
  unfold bitAt
  generalize x / 2 ^ k = y
  show IntKind.i64.wrap ((BitVec.ofInt 64 (y : Int) &&& BitVec.ofInt 64 1).toNat : Int) = _
  rw [BitVec.toNat_and, show (BitVec.ofInt 64 1).toNat = 1 from rfl, BitVec.ofInt_natCast, BitVec.toNat_ofNat, Nat.and_one_is_mod, IntKind.wrap_i64]
  omega
end Go.Proofs.Ytapljpcpmdlppaa
