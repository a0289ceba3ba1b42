/-
  CountCaught: the reference counts, the program subtracts: the same number. FnExactCountCaught and FnSubsets' callee.
-/
import Derived.Test.YtapljpcpmdlppaaMgFnArithmetics3
import Derived.Test.YtapljpcpmdlppaaMgFnArithmetics4
namespace Go.Proofs.Ytapljpcpmdlppaa
open Go.RowKit
set_option linter.unusedVariables false
set_option linter.unusedSimpArgs false
theorem wrap_small {x : Int} (h0 : -1099511627776 ≤ x) (h1 : x ≤ 1099511627776) : wrap64 x = x := IntWalk.wrap64_in x ⟨by omega, by omega⟩

end Go.Proofs.Ytapljpcpmdlppaa
/-
  AllZero, and the laws FnExactCountCaught and FnExactAllZero.
-/
namespace Go.Proofs.Ytapljpcpmdlppaa
open Go.RowKit
set_option linter.unusedVariables false
set_option linter.unusedSimpArgs false

/-- The number k places in. -/
theorem Ints.cell {w : World} {A : Option Addr} {n : Nat} {zs : List Int} (h : Ints w A n zs) {k : Nat} (hk : k < n) :
    ∃ b o, A = some ⟨b, o, none⟩ ∧ b < w.heap.size ∧ w.cell? ⟨b, o + k, none⟩ = some (.int .i64 (zs.getD k 0)) := by
  obtain ⟨b, o, e, hb, hc⟩ := h.at_ (by omega)
  exact ⟨b, o, e, hb, hc k hk⟩
def allZ (zs : List Int) (k : Nat) : Prop := ∀ j, j < k → zs.getD j 0 = 0
theorem allZ_all {zs : List Int} {n : Nat} (hl : zs.length = n) (h : allZ zs n) : zs.all (· == 0) = true := by
  rw [List.all_eq_true]
  intro x hx
  obtain ⟨j, hj, rfl⟩ := List.getElem_of_mem hx
  have := h j (by omega)
  rw [getI zs j hj] at this
  simp [this]
theorem allZ_not {zs : List Int} {k : Nat} (hk : k < zs.length) (h : ¬ zs.getD k 0 = 0) : zs.all (· == 0) = false := by
  rw [List.all_eq_false]
  refine ⟨zs[k], List.getElem_mem hk, ?_⟩
  rw [getI zs k hk] at h
  simp [h]
theorem allZ_succ {zs : List Int} {k : Nat} (h : allZ zs k) (h0 : zs.getD k 0 = 0) : allZ zs (k + 1) := fun j hj => by
  by_cases e : j = k
  · rw [e]; exact h0
  · exact h j (by omega)
set_option maxHeartbeats 400000 in
theorem implAllZero_c (A : Option Addr) (n c : Nat) (zs : List Int) (w : World) (hx : Ints w A n zs) (hn : n ≤ 4611686018427387903) :
    Calls Try.prog 78 #[.slice A n c] w fun e w' => e = .returned (.bool (zs.all (· == 0))) ∧ w = w' := by
  have LX := Lib.hid hx.len
  go_enter Try.func78, Try.ntmps78
  go_wp2_with fail
  go_loop [7] (fun i => ∃ k : Nat, k ≤ n ∧ i = .int .i64 k ∧ Hid (allZ zs k)) (fun i => n - (intOf i).toNat)
  case atStart => exact ⟨0, Nat.zero_le _, rfl, fun j hj => absurd hj (by omega)⟩
  case round =>
    obtain ⟨k, hk, rfl, hall⟩ := hrel
    by_cases hlt : k < n
    · obtain ⟨b, o, rfl, hb, c1⟩ := hx.cell hlt
      have i1 : (k : Int) < (n : Int) := by omega
      generalize hz : zs.getD k 0 = z at *
      have HZ := Lib.hid hz
      clear hz
      by_cases h0 : z = 0
      · subst h0
        go_wp2_with fail
        go_round
        case rel => exact ⟨k + 1, by omega, by go_num, allZ_succ hall.out HZ.out⟩
        case measure => simp [intOf]; omega
      · have hne : (z != 0) = true := by simp [h0]
        have HN := Lib.hid h0
        clear h0
        go_wp2_with fail
        go_ret
        have := LX.out
        exact ⟨retB (allZ_not (k := k) (by omega) (by rw [HZ.out]; exact HN.out)).symm, rfl⟩
    · have hkn : k = n := by omega
      subst hkn
      go_wp2_with fail
      go_ret
      exact ⟨retB (allZ_all LX.out hall.out).symm, rfl⟩

end Go.Proofs.Ytapljpcpmdlppaa
