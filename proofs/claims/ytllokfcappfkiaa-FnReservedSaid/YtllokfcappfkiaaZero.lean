/-
  AllZero, and the laws FnExactCountCaught and FnExactAllZero.
-/
import Derived.Test.YtllokfcappfkiaaCaught
namespace Go.Proofs.Ytllokfcappfkiaa
open Go.RowKit
set_option linter.unusedVariables false

/-- The number k places in. -/
theorem Ints.cell {w : World} {A : Option Addr} {n : Nat} {zs : List Int} (h : Ints w A n zs) {k : Nat} (hk : k < n) :
    ∃ b o, A = some ⟨b, o, none⟩ ∧ b < w.heap.size ∧ w.cell? ⟨b, o + k, none⟩ = some (.int .i64 (zs.getD k 0)) := by
  obtain ⟨b, o, e, hb, hc⟩ := h.at_ (by omega)
  exact ⟨b, o, e, hb, hc k hk⟩
def allZ (zs : List Int) (k : Nat) : Prop := ∀ j, j < k → zs.getD j 0 = 0
theorem allZ_all {zs : List Int} {n : Nat} (hl : zs.length = n) (h : allZ zs n) : zs.all (· == 0) = true := by
  rw [List.all_eq_true]
  intro x hx
  obtain ⟨j, hj, rfl⟩ := List.getElem_of_mem hx
  have := h j (by omega)
  rw [getI zs j hj] at this
  simp [this]
theorem allZ_not {zs : List Int} {k : Nat} (hk : k < zs.length) (h : ¬ zs.getD k 0 = 0) : zs.all (· == 0) = false := by
  rw [List.all_eq_false]
  refine ⟨zs[k], List.getElem_mem hk, ?_⟩
  rw [getI zs k hk] at h
  simp [h]
theorem allZ_succ {zs : List Int} {k : Nat} (h : allZ zs k) (h0 : zs.getD k 0 = 0) : allZ zs (k + 1) := fun j hj => by
  by_cases e : j = k
  · rw [e]; exact h0
  · exact h j (by omega)
set_option maxHeartbeats 400000 in
theorem specAllZero_c (A : Option Addr) (n c : Nat) (zs : List Int) (w : World) (hx : Ints w A n zs) (hn : n ≤ 4611686018427387903) :
    Calls Try.prog 33 #[.slice A n c] w fun e w' => e = .returned (.bool (zs.all (· == 0))) ∧ w = w' := by
  have LX := Lib.hid hx.len
  go_enter Try.func33, Try.ntmps33
  go_wp2_with fail
  go_loop [3] (fun i => ∃ k : Nat, k ≤ n ∧ i = .int .i64 k ∧ Hid (allZ zs k)) (fun i => n - (intOf i).toNat)
  case atStart => exact ⟨0, Nat.zero_le _, rfl, fun j hj => absurd hj (by omega)⟩
  case round =>
    obtain ⟨k, hk, rfl, hall⟩ := hrel
    by_cases hlt : k < n
    · obtain ⟨b, o, rfl, hb, c1⟩ := hx.cell hlt
      have i1 : (k : Int) < (n : Int) := by omega
      generalize hz : zs.getD k 0 = z at *
      have HZ := Lib.hid hz
      clear hz
      by_cases h0 : z = 0
      · subst h0
        go_wp2_with fail
        go_round
        case rel => exact ⟨k + 1, by omega, by go_num, allZ_succ hall.out HZ.out⟩
        case measure => simp [intOf]; omega
      · have hne : (z != 0) = true := by simp [h0]
        have HN := Lib.hid h0
        clear h0
        go_wp2_with fail
        go_ret
        have := LX.out
        exact ⟨retB (allZ_not (k := k) (by omega) (by rw [HZ.out]; exact HN.out)).symm, rfl⟩
    · have hkn : k = n := by omega
      subst hkn
      go_wp2_with fail
      go_ret
      exact ⟨retB (allZ_all LX.out hall.out).symm, rfl⟩
set_option maxHeartbeats 400000 in
theorem implAllZero_c (A : Option Addr) (n c : Nat) (zs : List Int) (w : World) (hx : Ints w A n zs) (hn : n ≤ 4611686018427387903) :
    Calls Try.prog 35 #[.slice A n c] w fun e w' => e = .returned (.bool (zs.all (· == 0))) ∧ w = w' := by
  have LX := Lib.hid hx.len
  go_enter Try.func35, Try.ntmps35
  go_wp2_with fail
  go_loop [7] (fun i => ∃ k : Nat, k ≤ n ∧ i = .int .i64 k ∧ Hid (allZ zs k)) (fun i => n - (intOf i).toNat)
  case atStart => exact ⟨0, Nat.zero_le _, rfl, fun j hj => absurd hj (by omega)⟩
  case round =>
    obtain ⟨k, hk, rfl, hall⟩ := hrel
    by_cases hlt : k < n
    · obtain ⟨b, o, rfl, hb, c1⟩ := hx.cell hlt
      have i1 : (k : Int) < (n : Int) := by omega
      generalize hz : zs.getD k 0 = z at *
      have HZ := Lib.hid hz
      clear hz
      by_cases h0 : z = 0
      · subst h0
        go_wp2_with fail
        go_round
        case rel => exact ⟨k + 1, by omega, by go_num, allZ_succ hall.out HZ.out⟩
        case measure => simp [intOf]; omega
      · have hne : (z != 0) = true := by simp [h0]
        have HN := Lib.hid h0
        clear h0
        go_wp2_with fail
        go_ret
        have := LX.out
        exact ⟨retB (allZ_not (k := k) (by omega) (by rw [HZ.out]; exact HN.out)).symm, rfl⟩
    · have hkn : k = n := by omega
      subst hkn
      go_wp2_with fail
      go_ret
      exact ⟨retB (allZ_all LX.out hall.out).symm, rfl⟩

theorem FnExactCountCaught.walk (w : World) (n : Int) (wn : (Lit.int .i64 n).wf = true) (b : Int) (wb : (Lit.int .i64 b).wf = true) :
    Calls Try.prog 4 #[.int .i64 n, .int .i64 b] w fun e w' => e = .returned (.bool true) ∧ w.grownBy w' none := by
  clear wn wb
  by_cases h : 0 ≤ n ∧ n ≤ 8 ∧ 0 ≤ b ∧ b ≤ n
  · obtain ⟨h1, h2, h3, h4⟩ := h
    obtain ⟨n, rfl⟩ := Int.eq_ofNat_of_zero_le h1
    obtain ⟨b, rfl⟩ := Int.eq_ofNat_of_zero_le h3
    have hn : n ≤ 8 := by omega
    have hb : b ≤ n := by omega
    go_enter Try.func4, Try.ntmps4
    go_wp2_with (first | (go_at_call 28; refine (specCountCaught_yes n b _ hn hb).mono ?_; rintro e w1 ⟨rfl, rfl⟩) | (go_at_call 29; refine (implCountCaught_yes n b _ hn hb).mono ?_; rintro e w1 ⟨rfl, q, rfl⟩))
    go_ret
    exact ⟨rfl, gbDN (gbR _ _) _⟩
  · have h' : n < 0 ∨ 8 < n ∨ b < 0 ∨ n < b := by omega
    go_enter Try.func4, Try.ntmps4
    go_wp2_with (first | (go_at_call 28; refine (specCountCaught_no n b _ h').mono ?_; rintro e w1 ⟨rfl, rfl⟩) | (go_at_call 29; refine (implCountCaught_no n b _ h').mono ?_; rintro e w1 ⟨rfl, rfl⟩))
    go_ret
    exact ⟨rfl, gbR _ _⟩

set_option maxHeartbeats 400000 in
theorem FnExactAllZero.walk (w : World) (A : Option Addr) (n c : Nat) (zs : List Int) (hz : IntsK .i64 w A n zs) (hm : n ≤ maxLen) :
    Calls Try.prog 6 #[.slice A n c] w fun e w' => e = .returned (.bool true) ∧ w.grownBy w' none := by
  have hx := hz.ints
  by_cases hbig : 1048576 < n
  · unfold maxLen at hm
    have hb : (1048576 : Int) < (n : Int) := by omega
    go_enter Try.func6, Try.ntmps6
    go_wp2_with fail
    go_ret
    exact ⟨rfl, gbR _ _⟩
  · have hb : ¬ (1048576 : Int) < (n : Int) := by omega
    have hn : n ≤ 1048576 := by omega
    clear hbig hm hz
    go_enter Try.func6, Try.ntmps6
    go_wp2_with fail
    refine (toIntS_c A n c zs _ hx (by omega)).mono ?_
    rintro e w1 ⟨g1, rfl, o1, h1⟩
    go_wp2_with fail
    refine (specAllZero_c _ _ _ zs _ (Rd.ofOwn o1) (by omega)).mono ?_
    rintro e w1 ⟨rfl, rfl⟩
    go_wp2_with fail
    refine (toIntS_c A n c zs _ (hx.grow h1) (by omega)).mono ?_
    rintro e w2 ⟨g2, rfl, o2, h2⟩
    go_wp2_with fail
    refine (implAllZero_c _ _ _ zs _ (Rd.ofOwn o2) (by omega)).mono ?_
    rintro e w2 ⟨rfl, rfl⟩
    go_wp2_with fail
    refine (toIntS_c A n c zs _ (hx.grow (gbT h1 h2)) (by omega)).mono ?_
    rintro e w3 ⟨g3, rfl, o3, h3⟩
    go_wp2_with fail
    refine (eqIntS_c _ _ _ _ _ _ zs zs _ (Rd.ofOwn (own_grow o2 h3)) (Rd.ofOwn o3) (by omega) (by omega)).mono ?_
    rintro e w4 ⟨rfl, q, rfl⟩
    rw [beq_self_eq_true]
    go_wp2_with fail
    go_ret
    exact ⟨rfl, gbDN (gbT (gbT h1 h2) h3) _⟩
end Go.Proofs.Ytllokfcappfkiaa
