/-
  FieldOk and FieldBits: reference and program.
-/
import Derived.Test.YthaadgdeadbhkaaMgFnExactEngineOk2
namespace Go.Proofs.Ythaadgdeadbhkaa
open Go.RowKit
set_option linter.unusedVariables false
set_option linter.unusedSimpArgs false
set_option maxHeartbeats 400000 in
theorem implFieldOk_c (p : Int) (w : World) (hp : p ≤ 9223372036854775807) :
    Calls Try.prog 112 #[.int .i64 p] w fun e w' => e = .returned (.bool (fieldB p)) ∧ w = w' := by
  go_enter Try.func112, Try.ntmps112
  go_wp2_with fail
  go_loop [3] (fun i => ∃ k : Nat, 2 ≤ k ∧ k ≤ 102 ∧ i = .int .i64 k ∧ Hid (∀ d : Nat, 2 ≤ d → d < k → (d : Int) < p → p % (d : Int) ≠ 0)) (fun i => 102 - (intOf i).toNat)
  case atStart => exact ⟨2, by omega, by omega, rfl, fun d h1 h2 => by omega⟩
  case round =>
    obtain ⟨k, hk2, hk, rfl, hnd⟩ := hrel
    by_cases h1 : (k : Int) < p
    · by_cases h2 : k ≤ 101
      · have d2 : decide ((k : Int) ≤ 101) = true := by simp; omega
        by_cases h3 : p % (k : Int) = 0
        · have h3' : (p % (k : Int) == 0) = true := by simp [h3]
          have H3 := Lib.hid h3
          clear h3
          go_wp2_with fail
          go_ret
          exact ⟨retB (field_no hk2 h1 H3.out).symm, rfl⟩
        · have h3' : (p % (k : Int) == 0) = false := by simp [h3]
          have H3 := Lib.hid h3
          clear h3
          go_wp2_with fail
          go_round
          case rel => exact ⟨k + 1, by omega, by omega, by go_num, fun d hd2 hdk hdp => by
            by_cases e : d = k
            · subst e; exact H3.out
            · exact hnd.out d hd2 (by omega) hdp⟩
          case measure => simp [intOf]; omega
      · have d2 : decide ((k : Int) ≤ 101) = false := by simp; omega
        have hbig : 101 < p := by omega
        have d3 : decide (p ≤ 101) = false := by simp; omega
        go_wp2
        go_ret
        exact ⟨retB (field_small (.inr hbig)).symm, rfl⟩
    · by_cases h2 : 2 ≤ p ∧ p ≤ 101
      · obtain ⟨h2, h3⟩ := h2
        have d1 : decide ((k : Int) < p) = false := by simp; omega
        have d3 : decide (p ≤ 101) = true := by simp; omega
        have d4 : decide (2 ≤ p) = true := by simp; omega
        go_wp2
        go_ret
        exact ⟨retB (field_yes h2 h3 fun d hd2 hdp => hnd.out d hd2 (by omega) hdp).symm, rfl⟩
      · have hs : fieldB p = false := field_small (by omega)
        have HS := Lib.hid hs
        clear hs
        have d1 : decide ((k : Int) < p) = false := by simp; omega
        by_cases h3 : 2 ≤ p
        · have d3 : decide (p ≤ 101) = false := by simp; omega
          have d4 : decide (2 ≤ p) = true := by simp; omega
          clear h2
          go_wp2
          go_ret
          exact ⟨retB HS.out.symm, rfl⟩
        · have d4 : decide (2 ≤ p) = false := by simp; omega
          clear h2
          go_wp2
          go_ret
          exact ⟨retB HS.out.symm, rfl⟩
set_option maxHeartbeats 400000 in
theorem specFieldOk_c (p : Int) (w : World) (hp : p ≤ 9223372036854775807) :
    Calls Try.prog 125 #[.int .i64 p] w fun e w' => e = .returned (.bool (fieldB p)) ∧ w = w' := by
  by_cases h2 : p < 2
  · have hs := Lib.hid (field_small (.inl h2))
    have d4 : decide (2 ≤ p) = false := by simp; omega
    go_enter Try.func125, Try.ntmps125
    go_wp2
    go_ret
    exact ⟨retB hs.out.symm, rfl⟩
  · by_cases h3 : 101 < p
    · have hs := Lib.hid (field_small (.inr h3))
      have d4 : decide (2 ≤ p) = true := by simp; omega
      have d3 : decide (p ≤ 101) = false := by simp; omega
      clear h2
      go_enter Try.func125, Try.ntmps125
      go_wp2
      go_ret
      exact ⟨retB hs.out.symm, rfl⟩
    · have d4 : decide (2 ≤ p) = true := by simp; omega
      have d3 : decide (p ≤ 101) = true := by simp; omega
      have h2' : 2 ≤ p := by omega
      have h3' : p ≤ 101 := by omega
      clear h2 h3
      go_enter Try.func125, Try.ntmps125
      go_wp2
      go_loop [3] (fun i => ∃ k : Nat, 2 ≤ k ∧ k ≤ 11 ∧ i = .int .i64 k ∧ Hid (∀ d : Nat, 2 ≤ d → d < k → p % (d : Int) ≠ 0)) (fun i => 11 - (intOf i).toNat)
      case atStart => exact ⟨2, by omega, by omega, rfl, fun d h1 h2 => by omega⟩
      case round =>
        obtain ⟨k, hk2, hk, rfl, hnd⟩ := hrel
        obtain ⟨X, hX⟩ : ∃ X : Nat, X = k * k := ⟨_, rfl⟩
        have hXk : k + k ≤ X := by rw [hX]; have := Nat.mul_le_mul_right k hk2; omega
        have hX1 : X ≤ 121 := by rw [hX]; exact Nat.mul_le_mul hk hk
        have e1 : (k : Int) * (k : Int) = (X : Int) := by rw [hX]; simp
        have e2 : wrap64 ((k : Int) * (k : Int)) = (X : Int) := by rw [e1]; exact wrap_small (by omega) (by omega)
        have HX := Lib.hid hX
        have HE := Lib.hid e1
        clear hX
        by_cases h1 : (X : Int) ≤ p
        · by_cases h4 : p % (k : Int) = 0
          · have h4' : (p % (k : Int) == 0) = true := by simp [h4]
            have H4 := Lib.hid h4
            clear h4
            go_wp2
            go_ret
            exact ⟨retB (field_no hk2 (by omega) H4.out).symm, rfl⟩
          · have h4' : (p % (k : Int) == 0) = false := by simp [h4]
            have H4 := Lib.hid h4
            have hk10 : k ≤ 10 := by
              rcases Nat.lt_or_ge 10 k with h | h
              · have : k = 11 := by omega
                subst this
                have := HX.out
                omega
              · exact h
            clear h4
            go_wp2
            go_round
            case rel => exact ⟨k + 1, by omega, by omega, by go_num, fun d hd2 hdk => by
              by_cases e : d = k
              · subst e; exact H4.out
              · exact hnd.out d hd2 (by omega)⟩
            case measure => simp [intOf]; omega
        · have h1' : p < (X : Int) := by omega
          go_wp2
          go_ret
          exact ⟨retB (field_sq h2' h3' (by omega) (by rw [HE.out]; exact h1') hnd.out).symm, rfl⟩
end Go.Proofs.Ythaadgdeadbhkaa
