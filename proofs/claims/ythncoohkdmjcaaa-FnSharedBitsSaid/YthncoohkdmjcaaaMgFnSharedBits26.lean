/-
  BitsOf, ChosenBy, FieldOk, FieldBits: reference and program, and the laws that hold them together.
-/
import Derived.Test.YthncoohkdmjcaaaMgFnSharedBits2
namespace Go.Proofs.Ythncoohkdmjcaaa
open Go.RowKit
set_option linter.unusedVariables false
set_option linter.unusedSimpArgs false

/-- Bit i of x. -/
def bitAt (x : Nat) (i : Nat) : Int := ((x / 2 ^ i % 2 : Nat) : Int)
def bitList (x n : Nat) : List Int := (List.range n).map (bitAt x)
theorem bitList_succ (x n : Nat) : bitList x (n + 1) = bitList x n ++ [bitAt x n] := by simp [bitList, List.range_succ]
theorem bitList_length (x n : Nat) : (bitList x n).length = n := by simp [bitList]
def bitsOf (x n : Int) : List Int := if 0 ≤ x ∧ 0 ≤ n ∧ n ≤ 32 then bitList x.toNat n.toNat else []
theorem bit_and (x k : Nat) : bits .and .i64 ((x : Int) / 2 ^ k) 1 = bitAt x k := by
  have e : ((x : Int) / 2 ^ k) = ((x / 2 ^ k : Nat) : Int) := by simp
  rw [e]
  unfold bitAt
  generalize x / 2 ^ k = y
  show IntKind.i64.wrap ((BitVec.ofInt 64 (y : Int) &&& BitVec.ofInt 64 1).toNat : Int) = _
  rw [BitVec.toNat_and, show (BitVec.ofInt 64 1).toNat = 1 from rfl, BitVec.ofInt_natCast, BitVec.toNat_ofNat, Nat.and_one_is_mod, IntKind.wrap_i64]
  omega
set_option maxHeartbeats 400000 in
theorem specBitsOf_yes (x n : Nat) (w : World) (h2 : n ≤ 32) (h4 : x ≤ 9223372036854775807) :
    Calls Try.prog 49 #[.int .i64 x, .int .i64 n] w fun e w' => ∃ v, e = .returned v ∧ w'.ownsRow w.heap.size 3 1 v n ((bitList x n).map (Value.int .i64)) ∧ w.grownBy w' none := by
  have hd : decide ((n : Int) ≤ 32) = true := by simp; omega
  have hx0 : ¬ (x : Int) < 0 := by omega
  go_enter Try.func49, Try.ntmps49
  go_wp2
  go_loopw [5, 6] (fun s i wr => ∃ k : Nat, k ≤ n ∧ i = .int .i64 k ∧ wr.ownsRow w.heap.size 3 1 s k ((bitList x k).map (Value.int .i64)) ∧ w.grownBy wr none) (fun _ i _ => n - (intOf i).toNat)
  case atStart => exact ⟨0, Nat.zero_le _, rfl, World.ownsRow_made w #[] 0 (Nat.le_refl _) (by simp) rfl, gbA (gbR _ _) _⟩
  case round =>
    obtain ⟨k, hk, rfl, hown, hg⟩ := hrel
    by_cases hlt : k < n
    · go_wp2_with (at_builtin; refine wp_append1 wr el_int rfl (.tmp 21) (.tmp 27) rfl _ rfl (by simp [Value.oneCell']) w.heap.size _ k _ hown rfl rfl (by unfold maxLen; omega) (by omega) hg.size ?_; intro v' w1 hown1 hgrow)
      have h1 := Lib.hid (show w1.ownsRow w.heap.size 3 1 v' (k + 1) ((bitList x (k + 1)).map (Value.int .i64)) by
        rw [bitList_succ, List.map_append]
        simpa [bit_and] using hown1)
      have h2 := Lib.hid (gbN hg hgrow fun g e => (hown.lt g e).1)
      clear hown1 hgrow hown hg
      go_wp2_with fail
      go_roundw
      case rel => exact ⟨k + 1, by omega, by go_num, h1.out, h2.out⟩
      case measure => simp [intOf]; omega
    · have hkn : k = n := by omega
      subst hkn
      go_wp2_with fail
      go_ret
      exact ⟨_, rfl, hown, hg⟩
theorem specBitsOf_no (x n : Int) (w : World) (h : x < 0 ∨ n < 0 ∨ 32 < n) :
    Calls Try.prog 49 #[.int .i64 x, .int .i64 n] w fun e w' => ∃ v, e = .returned v ∧ w'.ownsRow w.heap.size 3 1 v 0 [] ∧ w.grownBy w' none := by
  have hr := World.ownsRow_made (e := 3) (size := 1) w #[] 0 (Nat.le_refl _) (by simp) rfl
  have HR := Lib.hid hr
  clear hr
  by_cases h1 : n ≤ 0
  · have h1' : ¬ 0 < n := by omega
    go_enter Try.func49, Try.ntmps49
    go_wp2
    refine wp_loop_rounds 1 ?_
    rw [rounds_succ]
    go_wp2
    go_ret
    exact ⟨_, rfl, HR.out, gbA (gbR _ _) _⟩
  · by_cases h2 : 32 < n
    · have h2' : decide (n ≤ 32) = false := by simp; omega
      have h1' : decide (0 < n) = true := by simp; omega
      go_enter Try.func49, Try.ntmps49
      go_wp2
      refine wp_loop_rounds 1 ?_
      rw [rounds_succ]
      go_wp2
      go_ret
      exact ⟨_, rfl, HR.out, gbA (gbR _ _) _⟩
    · have h3 : x < 0 := by omega
      have h3' : decide (0 ≤ x) = false := by simp; omega
      have h2' : decide (n ≤ 32) = true := by simp; omega
      have h1' : decide (0 < n) = true := by simp; omega
      go_enter Try.func49, Try.ntmps49
      go_wp2
      refine wp_loop_rounds 1 ?_
      rw [rounds_succ]
      go_wp2
      go_ret
      exact ⟨_, rfl, HR.out, gbA (gbR _ _) _⟩
end Go.Proofs.Ythncoohkdmjcaaa
