/-
  ChosenBy: the bits of a coin as choices.
-/
import Derived.Test.YtllokfcappfkiaaBools
import Derived.Test.YtllokfcappfkiaaBits
namespace Go.Proofs.Ytllokfcappfkiaa
open Go.RowKit
set_option linter.unusedVariables false
def chosen (x n : Nat) : List Bool := (List.range n).map fun i => bitAt x i == 1
theorem chosen_succ (x n : Nat) : chosen x (n + 1) = chosen x n ++ [bitAt x n == 1] := by simp [chosen, List.range_succ]
set_option maxHeartbeats 400000 in
theorem specChosenBy_yes (x n : Nat) (w : World) (h2 : n ≤ 8) (h4 : x ≤ 4294967295) :
    Calls Try.prog 54 #[.int .i64 x, .int .i64 n] w fun e w' => ∃ v, e = .returned v ∧ w'.ownsRow w.heap.size 4 1 v n ((chosen x n).map Value.bool) ∧ w.grownBy w' none := by
  have hd : decide ((n : Int) ≤ 8) = true := by simp; omega
  have hx : decide ((x : Int) ≤ 4294967295) = true := by simp; omega
  go_enter Try.func54, Try.ntmps54
  go_wp2
  go_loopw [5, 6] (fun s i wr => ∃ k : Nat, k ≤ n ∧ i = .int .i64 k ∧ wr.ownsRow w.heap.size 4 1 s k ((chosen x k).map Value.bool) ∧ w.grownBy wr none) (fun _ i _ => n - (intOf i).toNat)
  case atStart => exact ⟨0, Nat.zero_le _, rfl, World.ownsRow_made w #[] 0 (Nat.le_refl _) (by simp) rfl, gbA (gbR _ _) _⟩
  case round =>
    obtain ⟨k, hk, rfl, hown, hg⟩ := hrel
    by_cases hlt : k < n
    · have d1 : decide ((k : Int) < (n : Int)) = true := by simp; omega
      go_wp2_with (first | (at_builtin; refine wp_append1 wr el_bool rfl (.tmp 21) (.tmp 28) rfl _ rfl (by simp [Value.oneCell']) w.heap.size _ k _ hown rfl rfl (by unfold maxLen; omega) (by omega) hg.size ?_; intro v' w1 hown1 hgrow) | go_in)
      have h1 := Lib.hid (show w1.ownsRow w.heap.size 4 1 v' (k + 1) ((chosen x (k + 1)).map Value.bool) by
        rw [chosen_succ, List.map_append]
        simpa [bit_and] using hown1)
      have h2 := Lib.hid (gbN hg hgrow fun g e => (hown.lt g e).1)
      clear hown1 hgrow hown hg
      go_wp2_with fail
      go_roundw
      case rel => exact ⟨k + 1, by omega, by go_num, h1.out, h2.out⟩
      case measure => simp [intOf]; omega
    · have hkn : k = n := by omega
      subst hkn
      have d1 : decide ((k : Int) < (k : Int)) = false := by simp
      go_wp2_with (first | go_in)
      go_ret
      exact ⟨_, rfl, hown, hg⟩
set_option maxHeartbeats 400000 in
theorem implChosenBy_yes (x n : Nat) (w : World) (h2 : n ≤ 8) (h4 : x ≤ 4294967295) :
    Calls Try.prog 55 #[.int .i64 x, .int .i64 n] w fun e w' => ∃ v, e = .returned v ∧ w'.ownsRow w.heap.size 4 1 v n ((chosen x n).map Value.bool) ∧ w.grownBy w' none := by
  have hd : decide ((n : Int) ≤ 8) = true := by simp; omega
  have hx : decide ((x : Int) ≤ 4294967295) = true := by simp; omega
  go_enter Try.func55, Try.ntmps55
  go_wp2
  go_loopw [5, 6] (fun s i wr => ∃ k : Nat, k ≤ n ∧ i = .int .i64 k ∧ wr.ownsRow w.heap.size 4 1 s k ((chosen x k).map Value.bool) ∧ w.grownBy wr none) (fun _ i _ => n - (intOf i).toNat)
  case atStart => exact ⟨0, Nat.zero_le _, rfl, World.ownsRow_made w #[] 0 (Nat.le_refl _) (by simp) rfl, gbA (gbR _ _) _⟩
  case round =>
    obtain ⟨k, hk, rfl, hown, hg⟩ := hrel
    by_cases hlt : k < n
    · have d1 : decide ((k : Int) < (n : Int)) = true := by simp; omega
      go_wp2_with (first | (at_builtin; refine wp_append1 wr el_bool rfl (.tmp 21) (.tmp 27) rfl _ rfl (by simp [Value.oneCell']) w.heap.size _ k _ hown rfl rfl (by unfold maxLen; omega) (by omega) hg.size ?_; intro v' w1 hown1 hgrow) | go_in)
      have h1 := Lib.hid (show w1.ownsRow w.heap.size 4 1 v' (k + 1) ((chosen x (k + 1)).map Value.bool) by
        rw [chosen_succ, List.map_append]
        simpa [bit_and] using hown1)
      have h2 := Lib.hid (gbN hg hgrow fun g e => (hown.lt g e).1)
      clear hown1 hgrow hown hg
      go_wp2_with fail
      go_roundw
      case rel => exact ⟨k + 1, by omega, by go_num, h1.out, h2.out⟩
      case measure => simp [intOf]; omega
    · have hkn : k = n := by omega
      subst hkn
      have d1 : decide ((k : Int) < (k : Int)) = false := by simp
      go_wp2_with (first | go_in)
      go_ret
      exact ⟨_, rfl, hown, hg⟩

theorem specChosenBy_no (x n : Int) (w : World) (h : x < 0 ∨ 4294967295 < x ∨ n < 0 ∨ 8 < n) :
    Calls Try.prog 54 #[.int .i64 x, .int .i64 n] w fun e w' => ∃ v, e = .returned v ∧ w'.ownsRow w.heap.size 4 1 v 0 [] ∧ w.grownBy w' none := by
  have hr := World.ownsRow_made (e := 4) (size := 1) w #[] 0 (Nat.le_refl _) (by simp) rfl
  have HR := Lib.hid hr
  clear hr
  by_cases h1 : n ≤ 0
  · have h1' : ¬ 0 < n := by omega
    have d0 : decide (0 < n) = false := by simp; omega
    go_enter Try.func54, Try.ntmps54
    go_wp2
    refine wp_loop_rounds 1 ?_
    rw [rounds_succ]
    go_wp2
    go_ret
    exact ⟨_, rfl, HR.out, gbA (gbR _ _) _⟩
  · by_cases h2 : 8 < n
    · have h2' : decide (n ≤ 8) = false := by simp; omega
      have h1' : decide (0 < n) = true := by simp; omega
      go_enter Try.func54, Try.ntmps54
      go_wp2
      refine wp_loop_rounds 1 ?_
      rw [rounds_succ]
      go_wp2
      go_ret
      exact ⟨_, rfl, HR.out, gbA (gbR _ _) _⟩
    · have h2' : decide (n ≤ 8) = true := by simp; omega
      have h1' : decide (0 < n) = true := by simp; omega
      by_cases h3 : x < 0
      · have h3' : decide (0 ≤ x) = false := by simp; omega
        clear h
        go_enter Try.func54, Try.ntmps54
        go_wp2
        refine wp_loop_rounds 1 ?_
        rw [rounds_succ]
        go_wp2
        go_ret
        exact ⟨_, rfl, HR.out, gbA (gbR _ _) _⟩
      · have h3' : decide (0 ≤ x) = true := by simp; omega
        have h4' : decide (x ≤ 4294967295) = false := by simp; omega
        clear h
        go_enter Try.func54, Try.ntmps54
        go_wp2
        refine wp_loop_rounds 1 ?_
        rw [rounds_succ]
        go_wp2
        go_ret
        exact ⟨_, rfl, HR.out, gbA (gbR _ _) _⟩
theorem implChosenBy_no (x n : Int) (w : World) (h : x < 0 ∨ 4294967295 < x ∨ n < 0 ∨ 8 < n) :
    Calls Try.prog 55 #[.int .i64 x, .int .i64 n] w fun e w' => ∃ v, e = .returned v ∧ w'.ownsRow w.heap.size 4 1 v 0 [] ∧ w.grownBy w' none := by
  by_cases h1 : x < 0
  · have h3' : decide (0 ≤ x) = false := by simp; omega
    clear h
    go_enter Try.func55, Try.ntmps55
    go_wp2
    go_ret
    exact ⟨_, rfl, World.ownsRow_nil _ _ _ _, gbR _ _⟩
  · have h3' : decide (0 ≤ x) = true := by simp; omega
    by_cases h2 : 4294967295 < x
    · have h4' : decide (x ≤ 4294967295) = false := by simp; omega
      clear h
      go_enter Try.func55, Try.ntmps55
      go_wp2
      go_ret
      exact ⟨_, rfl, World.ownsRow_nil _ _ _ _, gbR _ _⟩
    · have h4' : decide (x ≤ 4294967295) = true := by simp; omega
      by_cases h5 : n < 0
      · have h5' : decide (0 ≤ n) = false := by simp; omega
        clear h
        go_enter Try.func55, Try.ntmps55
        go_wp2
        go_ret
        exact ⟨_, rfl, World.ownsRow_nil _ _ _ _, gbR _ _⟩
      · have h5' : decide (0 ≤ n) = true := by simp; omega
        have h6' : decide (n ≤ 8) = false := by simp; omega
        clear h
        go_enter Try.func55, Try.ntmps55
        go_wp2
        go_ret
        exact ⟨_, rfl, World.ownsRow_nil _ _ _ _, gbR _ _⟩
/-- What the law does with its results: marked, held, made again, held again. -/
theorem FnExactChosenBy.core (x n : Int) (xs : List Bool) (k : Nat) (hk : k ≤ 32) (w : World)
    (hs : ∀ w, Calls Try.prog 54 #[.int .i64 x, .int .i64 n] w fun e w' => ∃ v, e = .returned v ∧ w'.ownsRow w.heap.size 4 1 v k (xs.map (Value.bool)) ∧ w.grownBy w' none)
    (hi : ∀ w, Calls Try.prog 55 #[.int .i64 x, .int .i64 n] w fun e w' => ∃ v, e = .returned v ∧ w'.ownsRow w.heap.size 4 1 v k (xs.map (Value.bool)) ∧ w.grownBy w' none) :
    Calls Try.prog 12 #[.int .i64 x, .int .i64 n] w fun e w' => e = .returned (.bool true) ∧ w.grownBy w' none := by
  have HS := Lib.hid hs
  have HI := Lib.hid hi
  clear hs hi
  go_enter Try.func12, Try.ntmps12
  go_wp2_with fail
  refine (HS.out _).mono ?_
  rintro e w1 ⟨v1, rfl, o1, g1⟩
  obtain ⟨A1, c1, rfl, _, _⟩ := own_form o1
  have K1 := Lib.hid o1
  go_wp2_with fail
  refine (HI.out _).mono ?_
  rintro e w2 ⟨v2, rfl, o2, g2⟩
  obtain ⟨A2, c2, rfl, hA2, _⟩ := own_form o2
  have O1 := Lib.hid (own_grow o1 g2)
  have O2 := Lib.hid o2
  have G2 := Lib.hid (gbT g1 g2)
  have Z := Lib.hid g1.size
  clear o1 o2 g1 g2
  go_wp2_with fail
  refine (eqBoolS_c _ _ _ _ _ _ xs xs _ (Rd.ofOwn O2.out) (Rd.ofOwn O1.out) (by omega) (by omega)).mono ?_
  rintro e w3 ⟨rfl, q, rfl⟩
  rw [beq_self_eq_true]
  go_wp2_with fail
  refine (markBoolS_c _ _ _ _ xs 1 _ (own_grow O2.out (gbDN (gbR _ _) q)) (by omega) (by omega) (by omega)).mono ?_
  rintro e w4 ⟨rfl, o4, g4⟩
  have O4 := Lib.hid o4
  have O14 := Lib.hid (own_grown (own_grow O1.out (gbDN (gbR _ _) q)) g4 (by rw [← ownB A2 k c2]; exact own_sep K1.out O2.out (Nat.le_refl _)))
  have G4 := Lib.hid (gbN (gbDN G2.out q) g4 (fun g hg => by
    rw [← ownB A2 k c2] at hg
    have := (O2.out.lt g hg).1
    have := Z.out
    omega))
  clear o4 g4
  go_wp2_with fail
  refine (heldBoolS_c _ _ _ 1 _ (Rd.ofOwn O4.out) (by omega) (by omega) (by omega)).mono ?_
  rintro e w5 ⟨rfl, rfl⟩
  go_wp2_with fail
  refine (HI.out _).mono ?_
  rintro e w5 ⟨v5, rfl, o5, g5⟩
  obtain ⟨A5, c5, rfl, _, _⟩ := own_form o5
  have O5 := Lib.hid o5
  have G5 := Lib.hid g5
  clear o5 g5
  go_wp2_with fail
  refine (eqBoolS_c _ _ _ _ _ _ xs xs _ (Rd.ofOwn O5.out) (Rd.ofOwn (own_grow O14.out G5.out)) (by omega) (by omega)).mono ?_
  rintro e w6 ⟨rfl, q2, rfl⟩
  rw [beq_self_eq_true]
  go_wp2_with fail
  refine (heldBoolS_c _ _ _ 1 _ (Rd.ofOwn (own_grow O4.out (gbDN G5.out q2))) (by omega) (by omega) (by omega)).mono ?_
  rintro e w7 ⟨rfl, rfl⟩
  go_wp2_with fail
  go_ret
  exact ⟨rfl, gbT G4.out (gbDN G5.out q2)⟩
theorem FnExactChosenBy.walk (w : World) (x : Int) (wx : (Lit.int .i64 x).wf = true) (n : Int) (wn : (Lit.int .i64 n).wf = true) :
    Calls Try.prog 12 #[.int .i64 x, .int .i64 n] w fun e w' => e = .returned (.bool true) ∧ w.grownBy w' none := by
  by_cases h : 0 ≤ x ∧ x ≤ 4294967295 ∧ 0 ≤ n ∧ n ≤ 8
  · obtain ⟨h1, h4, h2, h3⟩ := h
    obtain ⟨x, rfl⟩ := Int.eq_ofNat_of_zero_le h1
    obtain ⟨n, rfl⟩ := Int.eq_ofNat_of_zero_le h2
    exact FnExactChosenBy.core _ _ (chosen x n) n (by omega) w (fun w => specChosenBy_yes x n w (by omega) (by omega)) (fun w => implChosenBy_yes x n w (by omega) (by omega))
  · exact FnExactChosenBy.core _ _ [] 0 (by omega) w (fun w => specChosenBy_no x n w (by omega)) (fun w => implChosenBy_no x n w (by omega))
end Go.Proofs.Ytllokfcappfkiaa
