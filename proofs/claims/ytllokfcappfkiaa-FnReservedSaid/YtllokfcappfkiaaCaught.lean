/-
  CountCaught: the reference counts, the program subtracts: the same number. FnExactCountCaught and FnSubsets' callee.
-/
import Derived.Test.YtllokfcappfkiaaInts
import Derived.Test.YtllokfcappfkiaaPure
namespace Go.Proofs.Ytllokfcappfkiaa
open Go.RowKit
set_option linter.unusedVariables false
theorem wrap_small {x : Int} (h0 : -1099511627776 ≤ x) (h1 : x ≤ 1099511627776) : wrap64 x = x := IntWalk.wrap64_in x ⟨by omega, by omega⟩

theorem specCountCaught_no (n b : Int) (w : World) (h : n < 0 ∨ 8 < n ∨ b < 0 ∨ n < b) :
    Calls Try.prog 28 #[.int .i64 n, .int .i64 b] w fun e w' => e = .returned (.int .i64 (-1)) ∧ w = w' := by
  by_cases h1 : n < 0
  · go_enter Try.func28, Try.ntmps28
    go_wp2
    go_ret
    exact ⟨rfl, rfl⟩
  · by_cases h2 : 8 < n
    · have : ¬ n ≤ 8 := by omega
      go_enter Try.func28, Try.ntmps28
      go_wp2
      go_ret
      exact ⟨rfl, rfl⟩
    · by_cases h3 : b < 0
      · clear h
        go_enter Try.func28, Try.ntmps28
        go_wp2
        go_ret
        exact ⟨rfl, rfl⟩
      · have h4 : n < b := by omega
        have hd : decide (b ≤ n) = false := by simp; omega
        clear h
        go_enter Try.func28, Try.ntmps28
        go_wp2
        go_ret
        exact ⟨rfl, rfl⟩
theorem implCountCaught_no (n b : Int) (w : World) (h : n < 0 ∨ 8 < n ∨ b < 0 ∨ n < b) :
    Calls Try.prog 29 #[.int .i64 n, .int .i64 b] w fun e w' => e = .returned (.int .i64 (-1)) ∧ w = w' := by
  by_cases h1 : n < 0
  · go_enter Try.func29, Try.ntmps29
    go_wp2
    go_ret
    exact ⟨rfl, rfl⟩
  · by_cases h2 : 8 < n
    · have : ¬ n ≤ 8 := by omega
      go_enter Try.func29, Try.ntmps29
      go_wp2
      go_ret
      exact ⟨rfl, rfl⟩
    · by_cases h3 : b < 0
      · clear h
        go_enter Try.func29, Try.ntmps29
        go_wp2
        go_ret
        exact ⟨rfl, rfl⟩
      · have h4 : n < b := by omega
        have hd : decide (b ≤ n) = false := by simp; omega
        clear h
        go_enter Try.func29, Try.ntmps29
        go_wp2
        go_ret
        exact ⟨rfl, rfl⟩
theorem implCountCaught_yes (n b : Nat) (w : World) (hn : n ≤ 8) (hb : b ≤ n) :
    Calls Try.prog 29 #[.int .i64 n, .int .i64 b] w fun e w' => e = .returned (.int .i64 ((2 ^ n - 2 ^ (n - b) : Nat) : Int)) ∧ ∃ q, w' = w.drewN q := by
  have hz : 2 ^ (n - b) ≤ 2 ^ n := Nat.pow_le_pow_right (by omega) (by omega)
  have h8 := two_pow_le hn
  have Hz := Lib.hid hz
  have H8 := Lib.hid h8
  clear hz h8
  go_enter Try.func29, Try.ntmps29
  go_wp2
  go_quiet (fail)
  go_wp2
  go_ret
  refine ⟨retI ?_, _, rfl⟩
  have hz := Hz.out; have h8 := H8.out
  have e1 : ((n : Int) - (b : Int)).toNat = n - b := by omega
  have e2 : ((n : Int)).toNat = n := by omega
  have e3 : ((2 : Int) ^ n) = ((2 ^ n : Nat) : Int) := by simp
  have e4 : ((2 : Int) ^ (n - b)) = ((2 ^ (n - b) : Nat) : Int) := by simp
  have e5 : IntKind.i64.wrap ((n : Int) - (b : Int)) = (n : Int) - (b : Int) := IntWalk.i64_in _ ⟨by omega, by omega⟩
  rw [e3, e4]
  clear e3 e4
  generalize 2 ^ (n - b) = x at *
  generalize 2 ^ n = y at *
  rw [wrap_small (x := (y : Int)) (by omega) (by omega), wrap_small (x := (x : Int)) (by omega) (by omega), wrap_small (by omega) (by omega)]
  omega
theorem specCountCaught_yes (n b : Nat) (w : World) (hn : n ≤ 8) (hb : b ≤ n) :
    Calls Try.prog 28 #[.int .i64 n, .int .i64 b] w fun e w' => e = .returned (.int .i64 ((2 ^ n - 2 ^ (n - b) : Nat) : Int)) ∧ w = w' := by
  obtain ⟨N, hN⟩ : ∃ N, N = 2 ^ n := ⟨_, rfl⟩
  obtain ⟨M, hM⟩ : ∃ M, M = 2 ^ b := ⟨_, rfl⟩
  have hall := hits_all n (by omega) b (by omega)
  have hN8 : N ≤ 256 := by rw [hN]; exact two_pow_le hn
  have hM8 : M ≤ 256 := by rw [hM]; exact two_pow_le (by omega)
  have hM1 : 1 ≤ M := by rw [hM]; exact two_pow_pos' b
  have e6 : wrap64 ((2 : Int) ^ n) = (N : Int) := by
    rw [show ((2 : Int) ^ n) = ((2 ^ n : Nat) : Int) by simp, ← hN]; exact wrap_small (by omega) (by omega)
  have e7 : wrap64 ((2 : Int) ^ b) = (M : Int) := by
    rw [show ((2 : Int) ^ b) = ((2 ^ b : Nat) : Int) by simp, ← hM]; exact wrap_small (by omega) (by omega)
  have HN := Lib.hid hN
  have HM := Lib.hid hM
  have HA := Lib.hid hall
  clear hN hM hall
  go_enter Try.func28, Try.ntmps28
  go_wp2
  go_loop [5, 6] (fun s i => ∃ k : Nat, k ≤ N ∧ i = .int .i64 k ∧ s = .int .i64 (hits b k)) (fun _ i => N - (intOf i).toNat)
  case atStart => exact ⟨0, Nat.zero_le _, rfl, rfl⟩
  case round =>
    obtain ⟨k, hk, rfl, rfl⟩ := hrel
    by_cases hlt : k < N
    · have e8 : bits .and .i64 (k : Int) ((M : Int) - 1) = ((k &&& (M - 1) : Nat) : Int) := by
        have := and_nat k (M - 1) (by omega) (by omega)
        rw [← this]; congr 1; omega
      have hs := hits_le b k
      have HS : Hid (hits b (k + 1) = hits b k + if k &&& (M - 1) = 0 then 0 else 1) := by rw [HM.out]; rfl
      generalize hh : hits b k = h at *
      have Hh := Lib.hid hh
      clear hh
      generalize hx : k &&& (M - 1) = x at *
      clear hx
      by_cases hx0 : x = 0
      · subst hx0
        go_wp2
        go_round
        case rel => exact ⟨k + 1, by omega, by go_num, by rw [HS.out]; rfl⟩
        case measure => simp [intOf]; omega
      · have hne : ((x : Int) != 0) = true := by simp; omega
        go_wp2
        go_round
        case rel => exact ⟨k + 1, by omega, by go_num, by rw [HS.out, if_neg hx0]; go_num⟩
        case measure => simp [intOf]; omega
    · have hkN : k = N := by omega
      subst hkN
      go_wp2
      go_ret
      refine ⟨retI ?_, rfl⟩
      have h1 := HA.out
      rw [← HN.out] at h1 ⊢
      omega
end Go.Proofs.Ytllokfcappfkiaa
