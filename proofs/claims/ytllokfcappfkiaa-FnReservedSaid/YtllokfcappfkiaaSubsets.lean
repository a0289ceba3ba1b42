/-
  FnSubsets' walk.
-/
import Derived.Test.YtllokfcappfkiaaDraw
namespace Go.Proofs.Ytllokfcappfkiaa
open Go.RowKit
set_option linter.unusedVariables false
theorem bytesIn {w : World} {A : Option Addr} {n : Nat} {zs : List Int} (h : IntsK .u8 w A n zs) (hn : n ≤ 1048576) : BytesIn w A n zs := ⟨h.1, fun b hb => wf_u8 (h.2 b hb), hn⟩
theorem Places.at_ {qs : List Int} (h : Places qs) (k : Nat) (hk : k < 12) : 0 ≤ qs.getD k 0 ∧ qs.getD k 0 < 10000 := by
  obtain ⟨hl, hq⟩ := h
  rw [getI qs k (by omega)]
  exact hq _ (List.getElem_mem _)
/-- A call of big. -/
theorem big_c (w : World) (A : Option Addr) (n c : Nat) (hn : n ≤ 9223372036854775807) :
    Calls Try.prog 47 #[.slice A n c] w fun e w' => e = .returned (.bool (decide (1048576 < n))) ∧ w = w' := by
  by_cases h : 1048576 < n
  · have h1 : (1048576 : Int) < (n : Int) := by omega
    go_enter Try.func47, Try.ntmps47
    go_wp2_with fail
    go_ret
    exact ⟨retB (by first | (simp; done) | (simp; omega)), rfl⟩
  · have h1 : ¬ (1048576 : Int) < (n : Int) := by omega
    go_enter Try.func47, Try.ntmps47
    go_wp2_with fail
    go_ret
    exact ⟨retB (by first | (simp; done) | (simp; omega)), rfl⟩
set_option maxHeartbeats 800000 in
theorem FnSubsets.walk (w : World) (A : Option Addr) (n c : Nat) (zs : List Int) (hz : IntsK .u8 w A n zs) (hm : n ≤ maxLen) :
    Calls Try.prog 11 #[.slice A n c] w fun e w' => e = .returned (.bool true) ∧ w.grownBy w' none := by
  unfold maxLen at hm
  by_cases hbig : 1048576 < n
  · have hd : decide (1048576 < n) = true := by simp; omega
    go_enter Try.func11, Try.ntmps11
    go_wp2_with fail
    refine (big_c _ A n c (by omega)).mono ?_
    rintro e w1 ⟨rfl, rfl⟩
    go_wp2_with fail
    go_ret
    exact ⟨rfl, gbR _ _⟩
  · have hd : decide (1048576 < n) = false := by simp; omega
    have H := Lib.hid (bytesIn hz (by omega))
    clear hz
    go_enter Try.func11, Try.ntmps11
    go_wp2_with fail
    refine (big_c _ A n c (by omega)).mono ?_
    rintro e w1 ⟨rfl, rfl⟩
    rw [hd]
    go_wp2_with fail
    refine (DrawPlaces_c _ A n c zs H.out).mono ?_
    rintro e w1 ⟨v, qs, rfl, hown, hq, hg⟩
    obtain ⟨B, d, rfl, _, _⟩ := own_form hown
    have HI := Lib.hid (show Ints w1 B 12 qs from Rd.ofOwn hown)
    obtain ⟨b, o, rfl, hb, hc⟩ := HI.out.at_ (by omega)
    have c0 := hc 0 (by omega)
    rw [Nat.add_zero] at c0
    have c1 := hc 1 (by omega)
    have q0 := hq.at_ 0 (by omega)
    have q1 := hq.at_ 1 (by omega)
    have G := Lib.hid hg
    clear hown hc hg hq
    generalize qs.getD 0 0 = x at *
    generalize qs.getD 1 0 = y at *
    obtain ⟨q00, q01⟩ := q0
    obtain ⟨q10, q11⟩ := q1
    obtain ⟨N, hN⟩ : ∃ N : Nat, 1 + x % 8 = (N : Int) := ⟨(1 + x % 8).toNat, by omega⟩
    have hN1 : 1 ≤ N := by omega
    have hN8 : N ≤ 8 := by omega
    obtain ⟨M, hM⟩ : ∃ M : Nat, y % ((N : Int) + 1) = (M : Int) := ⟨(y % ((N : Int) + 1)).toNat, by have := Int.emod_nonneg y (show (N : Int) + 1 ≠ 0 by omega); omega⟩
    have hMN : M ≤ N := by have := Int.emod_lt_of_pos y (show 0 < (N : Int) + 1 by omega); omega
    go_wp2_with fail
    refine (implCountCaught_yes N M _ hN8 hMN).mono ?_
    rintro e w2 ⟨rfl, q, rfl⟩
    have HN := Lib.hid hN
    have HM := Lib.hid hM
    clear hN hM c0 c1 q00 q01 q10 q11 hb hbig hd hm
    have hX8 := two_pow_le hN8
    have hYX : 2 ^ (N - M) ≤ 2 ^ N := Nat.pow_le_pow_right (by omega) (by omega)
    have hv : ((2 ^ N - 2 ^ (N - M) : Nat) : Int) = ((2 ^ N : Nat) : Int) - ((2 ^ (N - M) : Nat) : Int) := by
      generalize 2 ^ N = X at *
      generalize 2 ^ (N - M) = Y at *
      omega
    have e6 : wrap64 ((2 : Int) ^ N) = ((2 ^ N : Nat) : Int) := by
      rw [show ((2 : Int) ^ N) = ((2 ^ N : Nat) : Int) by simp]
      generalize 2 ^ N = X at hX8 ⊢
      exact wrap_small (by omega) (by omega)
    have e7 : wrap64 ((2 : Int) ^ (N - M)) = ((2 ^ (N - M) : Nat) : Int) := by
      rw [show ((2 : Int) ^ (N - M)) = ((2 ^ (N - M) : Nat) : Int) by simp]
      have h := Nat.le_trans hYX hX8
      generalize 2 ^ (N - M) = Y at h ⊢
      exact wrap_small (by omega) (by omega)
    rw [hv]
    clear hv
    simp only [HM.out]
    generalize 2 ^ N = X at *
    generalize 2 ^ (N - M) = Y at *
    have e8 : ((N : Int) - (M : Int)).toNat = N - M := by omega
    have e9 : wrap64 ((X : Int) - (Y : Int)) = (X : Int) - (Y : Int) := wrap_small (by omega) (by omega)
    go_wp2_with fail
    refine (implCountCaught_yes N 0 _ hN8 (Nat.zero_le _)).mono ?_
    rintro e w2 ⟨rfl, q2, rfl⟩
    rw [Nat.sub_zero, Nat.sub_self]
    clear e6 e7 e8 e9
    go_wp2_with fail
    go_ret
    exact ⟨by simp, by repeat (first | exact G.out | refine gbDN ?_ _)⟩
end Go.Proofs.Ytllokfcappfkiaa
