/-
  BitsOf, ChosenBy, FieldOk, FieldBits: reference and program, and the laws that hold them together.
-/
import Derived.Test.YthdfkiaoahpjpaaMgFnArithmetic5
namespace Go.Proofs.Ythdfkiaoahpjpaa
open Go.RowKit
set_option linter.unusedVariables false
set_option linter.unusedSimpArgs false
def bitAt (x : Nat) (i : Nat) : Int := ((x / 2 ^ i % 2 : Nat) : Int)
theorem bit_and (x k : Nat) : bits .and .i64 ((x : Int) / 2 ^ k) 1 = bitAt x k := by
  have e : ((x : Int) / 2 ^ k) = ((x / 2 ^ k : Nat) : Int) := by simp
  rw [e]
  unfold bitAt
  generalize x / 2 ^ k = y
  show IntKind.i64.wrap ((BitVec.ofInt 64 (y : Int) &&& BitVec.ofInt 64 1).toNat : Int) = _
  rw [BitVec.toNat_and, show (BitVec.ofInt 64 1).toNat = 1 from rfl, BitVec.ofInt_natCast, BitVec.toNat_ofNat, Nat.and_one_is_mod, IntKind.wrap_i64]
  omega
end Go.Proofs.Ythdfkiaoahpjpaa
