/-
  AndsOf: reference and program; statements of the language.
-/
import Derived.Test.YtaokichfakolmaaArithOk
namespace Go.Proofs.Ytaokichfakolmaa
open Go.RowKit
set_option linter.unusedVariables false
def regB (z : Int) : Bool := decide (0 ≤ z) && decide (z ≤ 7)
abbrev stV (o d a b c n : Int) : Value := .agg #[.int .i64 o, .int .i64 d, .int .i64 a, .int .i64 b, .int .i64 c, .int .i64 n]
def stmtB (o d a b c n : Int) : Bool :=
  if o = 1 then a == 0 && b == 0 && c == 0 && regB d && inB n 0 15
  else if o = 2 then b == 0 && c == 0 && regB d && inB a 0 4 && inB n 0 3
  else if inB o 3 9 = true then c == 0 && n == 0 && regB d && regB a && regB b
  else if o = 10 then n == 0 && regB d && regB a && regB b && regB c
  else if o = 11 then d == 0 && b == 0 && c == 0 && n == 0 && regB a
  else if o = 12 then d == 0 && a == 0 && b == 0 && c == 0 && inB n 1 8
  else o == 13 && d == 0 && a == 0 && b == 0 && c == 0 && n == 0
def andsV (o : Int) : Int := if o = 3 ∨ o = 4 ∨ o = 9 then 3 else if o = 5 then 13 else if o = 6 ∨ o = 8 ∨ o = 10 then 4 else 0
def andsR (o d a b c n : Int) : Int := if stmtB o d a b c n then andsV o else -1
theorem regB_in (z : Int) : inB z 0 7 = regB z := rfl
/-- The numbers of a slice that stands written out. -/
theorem litInts (w : World) (t : TypeId) (zs : List Int) : Ints (w.alloc (.cells (zs.map (Value.int .i64)).toArray t)) (some ⟨w.heap.size, 0, none⟩) zs.length zs := by
  refine ⟨by simp, fun _ => ⟨w.heap.size, 0, rfl, by simp, fun j hj => ?_⟩⟩
  rw [cell_of_row _ _ _ _ t (0, 0) (heap_alloc_new w _)]
  simp
theorem litI1 (w : World) (g : Nat) (hg : w.heap.size = g) (t : TypeId) (a : Int) : Ints (w.alloc (.cells #[.int .i64 a] t)) (some ⟨g, 0, none⟩) 1 [a] := hg ▸ litInts w t [a]
theorem litI3 (w : World) (g : Nat) (hg : w.heap.size = g) (t : TypeId) (a b c : Int) : Ints (w.alloc (.cells #[.int .i64 a, .int .i64 b, .int .i64 c] t)) (some ⟨g, 0, none⟩) 3 [a, b, c] := hg ▸ litInts w t [a, b, c]
theorem litI4 (w : World) (g : Nat) (hg : w.heap.size = g) (t : TypeId) (a b c d : Int) : Ints (w.alloc (.cells #[.int .i64 a, .int .i64 b, .int .i64 c, .int .i64 d] t)) (some ⟨g, 0, none⟩) 4 [a, b, c, d] := hg ▸ litInts w t [a, b, c, d]
set_option maxHeartbeats 400000 in
theorem implisReg_c (A : Option Addr) (n c : Nat) (zs : List Int) (w : World) (hx : Ints w A n zs) (hn : n ≤ 4611686018427387903) :
    Calls Try.prog 102 #[.slice A n c] w fun e w' => e = .returned (.bool (zs.all regB)) ∧ w = w' := by
  have LX := Lib.hid hx.len
  go_enter Try.func102, Try.ntmps102
  go_wp2_with fail
  go_loop [7] (fun i => ∃ k : Nat, k ≤ n ∧ i = .int .i64 k ∧ Hid (∀ j, j < k → regB (zs.getD j 0) = true)) (fun i => n - (intOf i).toNat)
  case atStart => exact ⟨0, Nat.zero_le _, rfl, fun j hj => by omega⟩
  case round =>
    obtain ⟨k, hk, rfl, hall⟩ := hrel
    by_cases hlt : k < n
    · obtain ⟨b, o, rfl, hb, c1⟩ := Ints.cell hx hlt
      have i1 : (k : Int) < (n : Int) := by omega
      obtain ⟨z, hz⟩ : ∃ z, zs.getD k 0 = z := ⟨_, rfl⟩
      rw [hz] at c1
      cases hr : regB z with
      | true =>
        have HE : Hid (∀ j, j < k + 1 → regB (zs.getD j 0) = true) := fun j hj => by
          by_cases e : j = k
          · subst e; rw [hz]; exact hr
          · exact hall.out j (by omega)
        have HR : Hid (inB z 0 7 = true) := hr
        clear hz hr
        go_wp2_with fail
        refine (impl.within_q z 0 7 _).mono ?_
        rintro e w1 ⟨rfl, rfl⟩
        rw [HR.out]
        go_wp2_with fail
        go_round
        case rel => exact ⟨k + 1, by omega, by go_num, HE.out⟩
        case measure => simp [intOf]; omega
      | false =>
        have HF : Hid (zs.all regB = false) := by
          unfold Hid
          rw [List.all_eq_false]
          exact ⟨z, by rw [← hz, getI _ _ (by rw [LX.out]; exact hlt)]; exact List.getElem_mem _, by rw [hr]; simp⟩
        have HR : Hid (inB z 0 7 = false) := hr
        clear hz hr
        go_wp2_with fail
        refine (impl.within_q z 0 7 _).mono ?_
        rintro e w1 ⟨rfl, rfl⟩
        rw [HR.out]
        go_wp2_with fail
        go_ret
        exact ⟨retB HF.out.symm, rfl⟩
    · have hkn : k = n := by omega
      subst hkn
      have HF : Hid (zs.all regB = true) := by
        unfold Hid
        rw [List.all_eq_true]
        intro z hz
        obtain ⟨j, hj, rfl⟩ := List.getElem_of_mem hz
        have := hall.out j (by rw [← LX.out]; exact hj)
        rw [getI _ _ hj] at this
        exact this
      go_wp2_with fail
      go_ret
      exact ⟨retB HF.out.symm, rfl⟩
end Go.Proofs.Ytaokichfakolmaa
